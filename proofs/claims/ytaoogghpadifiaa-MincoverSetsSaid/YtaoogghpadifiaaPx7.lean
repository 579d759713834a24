-- LAID BY OUR PROGRAM OVER THE PRINT (xprint.py, part.py): Lean checks it.
import Derived.Test.YtaoogghpadifiaaPx0
import Derived.Test.YtaoogghpadifiaaPx1
import Derived.Test.YtaoogghpadifiaaPx2
import Derived.Test.YtaoogghpadifiaaPx3
import Derived.Test.YtaoogghpadifiaaPx4
import Derived.Test.YtaoogghpadifiaaPx6
namespace Go.Proofs.Ytaoogghpadifiaa.P
open Go.RowKit Go.Proofs.YtaoogghpadifiaaW.PrintWords Go.Proofs.YtaoogghpadifiaaW.PrintLast Go.Proofs.YtaoogghpadifiaaW.PrintMore
attribute [local go_sem] max2_int min2_int max_two min_two max_three min_three max_four min_four   -- for this text's walks alone
set_option linter.unusedVariables false
set_option linter.unusedSimpArgs false

/-! ### r22_Tree: function 37 -/
mutual
def r22_Tree.j0 : Nat → Int → Bool → ByteArray → List (S64) → List (S38) → Option ((List (S73)) × Bool × Int)
 | 0, _, _, _, _, _ => none
 | k + 1, x1, er, ay, az, aA => if er = true then (some (([] : List (S73)), false, 1)) else ((r09_Initial.f k ay az aA).bind fun bC => (r22_Tree.l0 k x1 (([(⟨(-1), (-1), bC, false⟩ : S73)] : List (S73))) 0 ay az aA))
def r22_Tree.l0 : Nat → Int → List (S73) → Int → ByteArray → List (S64) → List (S38) → Option ((List (S73)) × Bool × Int)
 | 0, _, _, _, _, _, _ => none
 | k + 1, x1, x7, x8, ay, az, aA => if x8 < (x7.length : Int) then (if 0 ≤ x8 then (if (rd_T73 x7 x8).f3 = true then (r22_Tree.l0 k x1 x7 (wrap64 (x8 + 1)) ay az aA) else ((r22_Enabled.f k ay az aA ((rd_T73 x7 x8).f2)).bind fun aw => (r22_Tree.l1 k x1 x7 x8 aw 0 ay az aA))) else (none)) else (some (x7, true, 0))
def r22_Tree.l1 : Nat → Int → List (S73) → Int → List Int → Int → ByteArray → List (S64) → List (S38) → Option ((List (S73)) × Bool × Int)
 | 0, _, _, _, _, _, _, _, _ => none
 | k + 1, x1, x7, x8, x9, x10, ay, az, aA => if x10 < (x9.length : Int) then (if 0 ≤ x8 then (if x8 < (x7.length : Int) then (if 0 ≤ x10 then ((r22_Fire.f k ay az aA ((rd_T73 x7 x8).f2) (rd x9 x10)).bind fun cb => (if cb.2 = true then (if (x7.length : Int) = x1 then (some (x7, false, 0)) else ((r22_child.f k x7 x8 cb.1).bind fun bv => ((r22_seen.f k x7 bv).bind fun bI => (if x7.length < 2932031007402 then (r22_Tree.l1 k x1 (x7 ++ [(⟨x8, rd x9 x10, bv, bI⟩ : S73)]) x8 x9 (wrap64 (x10 + 1)) ay az aA) else (none))))) else (some (([] : List (S73)), false, 3)))) else (none)) else (none)) else (none)) else (r22_Tree.l0 k x1 x7 (wrap64 (x8 + 1)) ay az aA)
end
def r22_Tree.f (k : Nat) (ak : ByteArray) (ai : List (S64)) (aj : List (S38)) (a1 : Int) : Option ((List (S73)) × Bool × Int) := (r09_Valid.f k ak ai aj).bind fun cp => (if cp = true then ((r09_Plain.f k ak ai aj).bind fun cq => (if cq = true then (if a1 < 1 then (r22_Tree.j0 k a1 true ak ai aj) else (r22_Tree.j0 k a1 (decide (a1 > 20000)) ak ai aj)) else (some (([] : List (S73)), false, 12)))) else ((r09_Check.f k ak ai aj).bind fun cH => (some (([] : List (S73)), false, cH.1))))
theorem r22_Tree.mono_l : ∀ k, M5 r22_Tree.j0 k ∧ M6 r22_Tree.l0 k ∧ M8 r22_Tree.l1 k
 | 0 => ⟨fun _ _ _ _ _ r h => by simp [r22_Tree.j0] at h, fun _ _ _ _ _ _ r h => by simp [r22_Tree.l0] at h, fun _ _ _ _ _ _ _ _ r h => by simp [r22_Tree.l1] at h⟩
 | k + 1 => by
  obtain ⟨dB, dC, dD⟩ := r22_Tree.mono_l k
  refine ⟨?_, ?_, ?_⟩ <;> dsimp only [M5, M6, M8] <;> intros <;> (first | unfold r22_Tree.j0 | unfold r22_Tree.l0 | unfold r22_Tree.l1) <;> repeat' first | (with_reducible first | apply dB | apply dC | apply dD | apply r09_Check.mono | apply r09_Initial.mono | apply r09_Plain.mono | apply r09_Valid.mono | apply r22_Enabled.mono | apply r22_Fire.mono | apply r22_child.mono | apply r22_seen.mono | apply lr | apply ln | apply li | refine lb ?_ fun _ => ?_)
theorem r22_Tree.mono : ∀ a0 a1 a2 a3 k, LeO (r22_Tree.f k a0 a1 a2 a3) (r22_Tree.f (k + 1) a0 a1 a2 a3) := by
 intro a0 a1 a2 a3 k
 obtain ⟨dB, dC, dD⟩ := r22_Tree.mono_l k
 unfold r22_Tree.f
 repeat' first | (with_reducible first | apply dB | apply dC | apply dD | apply r09_Check.mono | apply r09_Initial.mono | apply r09_Plain.mono | apply r09_Valid.mono | apply r22_Enabled.mono | apply r22_Fire.mono | apply r22_child.mono | apply r22_seen.mono | apply lr | apply ln | apply li | refine lb ?_ fun _ => ?_)
def r22_Tree.T12 : Bool × List (List Nat × List Nat) := (true, [([], []), ([], []), ([], []), ([1, 2], [1, 2]), ([3], [3]), ([4], [4]), ([0, 5], [0, 5]), ([6, 6, 0, 1, 2, 3, 4, 5, 6], [6])])
def r22_Tree.B12 : List Nat := [0, 0, 0, 6, 14, 30, 63, 127]
theorem r22_Tree.tab12 : rtab .any (opsOf Try.f37 12) = r22_Tree.T12 := by kernel_rfl
theorem r22_Tree.bits12 : waitsOk r22_Tree.T12.2 r22_Tree.B12 = true := by kernel_rfl
def r22_Tree.T16 : Bool × List (List Nat × List Nat) := (true, [([], []), ([], []), ([], []), ([1, 2], [1, 2]), ([3], [3]), ([4], [4]), ([], []), ([], []), ([6, 7], [6, 7]), ([8], [8]), ([0, 5, 9], [0, 5, 9]), ([10], [10]), ([11], [11]), ([11], [11]), ([12, 10, 0, 1, 2, 3, 4, 5, 6, 7, 8, 9, 10, 11, 12], [12]), ([13, 14, 0, 1, 2, 3, 4, 5, 6, 7, 8, 9, 10, 11, 12, 13, 14], [13])])
def r22_Tree.B16 : List Nat := [0, 0, 0, 6, 14, 30, 0, 0, 192, 448, 1023, 2047, 4095, 4095, 8191, 32767]
theorem r22_Tree.tab16 : rtab .any (opsOf Try.f37 16) = r22_Tree.T16 := by kernel_rfl
theorem r22_Tree.bits16 : waitsOk r22_Tree.T16.2 r22_Tree.B16 = true := by kernel_rfl
def r22_Tree.T22 : Bool × List (List Nat × List Nat) := (true, [([], []), ([], []), ([], []), ([], []), ([2, 3], [2, 3]), ([4], [4]), ([], []), ([], []), ([], []), ([7, 8], [7, 8]), ([1, 5, 6, 9], [1, 5, 6, 9]), ([10], [10]), ([0, 11, 9], [0, 11]), ([12, 12, 0, 1, 2, 3, 4, 5, 6, 7, 8, 9, 10, 11, 12], [0, 7, 12])])
def r22_Tree.B22 : List Nat := [0, 0, 0, 0, 12, 28, 0, 0, 0, 384, 1022, 2046, 4095, 8191]
theorem r22_Tree.tab22 : rtab .any (opsOf Try.f37 22) = r22_Tree.T22 := by kernel_rfl
theorem r22_Tree.bits22 : waitsOk r22_Tree.T22.2 r22_Tree.B22 = true := by kernel_rfl
set_option maxHeartbeats 8000000 in
set_option maxRecDepth 100000 in
theorem r22_Tree.calls (k : Nat) (ak : ByteArray) (a6 : Option Addr) (a8 : Nat) (ai : List (S64)) (a7 : Option Addr) (a9 : Nat) (aj : List (S38)) (a1 : Int) (r1 : List (S73)) (r2 : Bool) (r3 : Int) (w : World) (ch : Kd.C k64 w a6 ai.length ai) (cf : ai.length ≤ a8) (ci : Kd.C k38 w a7 aj.length aj) (cg : aj.length ≤ a9) (h : r22_Tree.f k ak ai aj a1 = some (r1, r2, r3)) :
  Calls Try.prog 37 #[.agg #[.string ak, .slice a6 ai.length a8, .slice a7 aj.length a9], .int .i64 a1] w fun e w' => ∃ v0_ : Value, e = .returned (.tuple #[v0_, .bool r2, .int .i64 r3]) ∧ Kd.N k73 73 w' w.heap.size (fun k_ => (w.heap.size ≤ k_)) v0_ r1 ∧ Below w.heap.size w w' := by
 have dz : ∀ (x0 x1 : Value) (W : World), (Instr.field 48 (.agg #[x0, x1]) 0).run Try.prog W = .ok x0 W := fun x0 x1 W => by kernel_rfl
 have ef := Try.underlying25
 have eg := Try.underlying73
 have aW := am ch
 have aT := am cf
 clear ch cf
 have aX := am ci
 have aU := am cg
 clear ci cg
 have HB := am (Below.refl w.heap.size w)
 have H := h
 unfold r22_Tree.f at H
 clear h
 replace H := bnd H
 obtain ⟨cp, A3, H⟩ := H
 (try dsimp only at H)
 cases cp
 ·rw [if_neg Bool.false_ne_true] at H
  replace H := bnd H
  obtain ⟨⟨dE, dF⟩, dV, H⟩ := H
  (try dsimp only at H)
  simp only [Option.some.injEq, Prod.mk.injEq] at H
  obtain ⟨rfl, rfl, rfl⟩ := H
  go_enter Try.func37, Try.ntmps37
  go_wp2_with (first | ((with_reducible refine gate_dst (N := 2) rfl ?_); refine box_ev ?_; intro af hg eO hbox hb; have aa := am hbox; have bE := gwl hg; have b9 := bE; replace HB := bsl hb; clear hb hbox hg; have eu := cf3 aa.1) | ((with_reducible refine gate_callee (f := 12) rfl ?_); refine gC 14 Try.func12 _ (r09_Valid.calls k ak _ _ ai _ _ aj false _ (csb aW HB) aT.1 (csb aX HB) aU.1 A3.1) ?_; rintro e eP ⟨rfl, hb⟩; refine ⟨_, rfl, ?_⟩; replace aa := bbh aa hb; replace HB := bst hb; (try clear hb); have ev := cf3 aa.1) | ((with_reducible refine gate_callee (f := 34) rfl ?_); refine gC 17 Try.func34 _ (r09_Check.calls k ak _ _ ai _ _ aj dE dF _ (csb aW HB) aT.1 (csb aX HB) aU.1 dV.1) ?_; rintro e eQ ⟨rfl, hb⟩; refine ⟨_, rfl, ?_⟩; replace aa := bbh aa hb; replace HB := bst hb; (try clear hb)))
  go_ret3
  exact ⟨_, per, knl, pbg⟩
 rw [if_pos rfl] at H
 replace H := bnd H
 obtain ⟨cq, A5, H⟩ := H
 (try dsimp only at H)
 cases cq
 ·rw [if_neg Bool.false_ne_true] at H
  simp only [Option.some.injEq, Prod.mk.injEq] at H
  obtain ⟨rfl, rfl, rfl⟩ := H
  go_enter Try.func37, Try.ntmps37
  go_wp2_with (first | ((with_reducible refine gate_dst (N := 2) rfl ?_); refine box_ev ?_; intro af hg eL hbox hb; have aa := am hbox; have bE := gwl hg; have b9 := bE; replace HB := bsl hb; clear hb hbox hg; have es := cf3 aa.1) | ((with_reducible refine gate_callee (f := 12) rfl ?_); refine gC 14 Try.func12 _ (r09_Valid.calls k ak _ _ ai _ _ aj true _ (csb aW HB) aT.1 (csb aX HB) aU.1 A3.1) ?_; rintro e eM ⟨rfl, hb⟩; refine ⟨_, rfl, ?_⟩; replace aa := bbh aa hb; replace HB := bst hb; (try clear hb); have et := cf3 aa.1) | ((with_reducible refine gate_callee (f := 74) rfl ?_); refine gC 20 Try.func74 _ (r09_Plain.calls k ak _ _ ai _ _ aj false _ (csb aW HB) aT.1 (csb aX HB) aU.1 A5.1) ?_; rintro e eN ⟨rfl, hb⟩; refine ⟨_, rfl, ?_⟩; replace aa := bbh aa hb; replace HB := bst hb; (try clear hb)))
  go_ret3
  exact ⟨_, per, knl, pbg⟩
 rw [if_pos rfl] at H
 have di := am H
 clear H
 go_enter Try.func37, Try.ntmps37
 go_upto_region 5 with (first | ((with_reducible refine gate_dst (N := 2) rfl ?_); refine box_ev ?_; intro af hg w8 hbox hb; have aa := am hbox; have bE := gwl hg; have b9 := bE; replace HB := bsl hb; clear hb hbox hg; have dH := cf3 aa.1) | ((with_reducible refine gate_callee (f := 12) rfl ?_); refine gC 14 Try.func12 _ (r09_Valid.calls k ak _ _ ai _ _ aj true _ (csb aW HB) aT.1 (csb aX HB) aU.1 A3.1) ?_; rintro e ey ⟨rfl, hb⟩; refine ⟨_, rfl, ?_⟩; replace aa := bbh aa hb; replace HB := bst hb; (try clear hb); have cr := cf3 aa.1) | ((with_reducible refine gate_callee (f := 74) rfl ?_); refine gC 20 Try.func74 _ (r09_Plain.calls k ak _ _ ai _ _ aj true _ (csb aW HB) aT.1 (csb aX HB) aU.1 A5.1) ?_; rintro e ez ⟨rfl, hb⟩; refine ⟨_, rfl, ?_⟩; replace aa := bbh aa hb; replace HB := bst hb; (try clear hb)))
 (try simp only [Act.put, List.setIfInBounds_toArray, List.set_cons_zero, List.set_cons_succ])
 go_cut [27] (fun ek wc => ∃ (kq : Nat) (bR : Bool), ek = .bool bR ∧ Aside0 (r22_Tree.j0 kq a1 bR ak ai aj = some (r1, r2, r3)) ∧ Aside0 (kq ≤ k) ∧ Aside0 (wc.heap[af]? = some (.cells #[.string ak, (.slice a6 ai.length a8), (.slice a7 aj.length a9)] 25 (0, 0))) ∧ Aside0 (Below w.heap.size w wc))
 case first =>
  have H := di.1
  clear di
  replace H := ifl H
  rcases H with ⟨bj, H⟩ | ⟨bj, H⟩
  ·(first | rw [bj] | (simp only [i64_w, i32_w]; rw [bj]) | skip)
   have H' := am H
   clear H
   go_wp2
   go_meet
   case rel => exact ⟨_, (true), prs, H', ⟨by first | omega | exact Nat.le_refl _⟩, ⟨pbk aa.1⟩, ⟨pbg⟩⟩
  (first | rw [bj] | (simp only [i64_w, i32_w]; rw [bj]) | skip)
  have H' := am H
  clear H
  go_wp2
  go_meet
  case rel => exact ⟨_, (decide (a1 > 20000)), prs, H', ⟨by first | omega | exact Nat.le_refl _⟩, ⟨pbk aa.1⟩, ⟨pbg⟩⟩
 clear di
 try clear c4 dI bj cr dH
 obtain ⟨kq, bR, rfl, HA, cu, aa, HB⟩ := hcut
 obtain _ | de := kq
 ·exact absurd HA.1 (by simp [r22_Tree.j0])
 have H := HA.1
 clear HA
 simp only [r22_Tree.j0] at H
 cases bR
 rotate_left
 ·rw [if_pos rfl] at H
  simp only [Option.some.injEq, Prod.mk.injEq] at H
  obtain ⟨rfl, rfl, rfl⟩ := H
  go_wp2
  go_ret3
  exact ⟨_, per, knl, pbg⟩
 rw [if_neg Bool.false_ne_true] at H
 replace H := bnd H
 obtain ⟨bC, A15, H⟩ := H
 (try dsimp only at H)
 obtain ⟨cZ, b1⟩ : ∃ y_ : List (S73), y_ = (([(⟨(-1), (-1), bC, false⟩ : S73)] : List (S73))) := ⟨_, rfl⟩
 replace H : (r22_Tree.l0 de a1 cZ 0 ak ai aj) = some (r1, r2, r3) := hrp b1 H
 have ca := am b1
 clear b1
 have H' := am H
 clear H
 have db := cf3 aa.1
 go_wp2_with (first | ((with_reducible refine gate_callee (f := 26) rfl ?_); refine gC 29 Try.func26 _ (r09_Initial.calls de ak _ _ ai _ _ aj bC _ (csb aW HB) aT.1 (csb aX HB) aU.1 A15.1) ?_; rintro e ep ⟨el, rfl, bg, hb⟩; refine ⟨_, rfl, ?_⟩; have bJ := am (Kd.R_lower (Kd.R_newM (M := fun k_ => (w.heap.size ≤ k_)) bg (below_size pbg) (fun k_ h_ => h_)) (below_size pbg)); replace aa := bbh aa hb; replace HB := bst hb; (try clear hb); (try clear bg); obtain ⟨cw, cO, dm⟩ := Kd.R_slice bJ.1; subst dm) | ((with_reducible refine gate_dst (N := 31) rfl ?_); refine Kd.N_lit k73 _ 73 ?hg (N' := 31) ?hd (xs := ([(⟨(-1), (-1), bC, false⟩ : S73)] : List (S73))) (inner := [.int .i64 (-1), .int .i64 (-1), .slice cw bC.length cO, .bool false]) (ok := (fun k_ => (w.heap.size ≤ k_) ∧ k_ ≠ af)) (okp := (fun k_ => (w.heap.size ≤ k_) ∧ k_ ≠ af)) ?hr ?hp (fun _ hk => hk) ((show ∀ k_, ep.heap.size ≤ k_ → (fun k_ => (w.heap.size ≤ k_) ∧ k_ ≠ af) k_ from fun k_ hk => ⟨(Nat.le_trans (below_size pbg) hk), Kd.freshB (g := af) (o := .cells #[.string ak, .slice a6 ai.length a8, .slice a7 aj.length a9] 25 (0, 0)) (by exact pbk aa.1) k_ hk⟩) _ (Nat.le_refl _)) (Below.refl _ _) (Nat.le_refl _) (by simp) ?_; (case hd => rfl); (case hg => rfl); (case hr => first | (go_simp; done) | (go_simp; rfl)); (case hp => exact (Reps.c4 (show Kd.FK k73 _ _ (⟨(-1), (-1), bC, false⟩ : S73) [.int .i64 (-1), .int .i64 (-1), .slice cw bC.length cO, .bool false] from (k73_mkF _ _ (⟨(-1), (-1), bC, false⟩ : S73) (Kd.R_reads' (Kd.R_mono (ok' := (fun k_ => (w.heap.size ≤ k_) ∧ k_ ≠ af)) (Kd.R_types (bJ.1) aa.1 (by decide)) (fun k_ hk => ⟨hk.1.1, hk.2⟩))).2.1 (Kd.R_F (Kd.R_mono (ok' := (fun k_ => (w.heap.size ≤ k_) ∧ k_ ≠ af)) (Kd.R_types (bJ.1) aa.1 (by decide)) (fun k_ hk => ⟨hk.1.1, hk.2⟩))))) (Reps.none _ _))); intro em eA b0 hb hg_ hnew_; clear hg_ hnew_; (first | rw [← ca.1] at b0 | (simp only [Int.reduceToNat] at b0; rw [← ca.1] at b0)); have cz := am (Kd.N_lower b0 (below_size pbg)); replace aa := bbh aa hb; replace HB := bst hb; clear bJ; clear hb b0))
 go_loopg [7, 8] de (fun kq v7 v8 w' => ∃ (aM : List (S73)) (ab : Int), v8 = .int .i64 ab ∧ Aside0 (r22_Tree.l0 kq a1 aM ab ak ai aj = some (r1, r2, r3)) ∧ Aside0 (kq ≤ de) ∧ Aside0 (Kd.N k73 73 w' w.heap.size (fun k_ => (w.heap.size ≤ k_) ∧ k_ ≠ af) v7 aM) ∧ Aside0 (w'.heap[af]? = some (.cells #[.string ak, (.slice a6 ai.length a8), (.slice a7 aj.length a9)] 25 (0, 0))) ∧ Aside0 (Below w.heap.size w w'))
 case atStart => exact ⟨(cZ), (0), prs, H', ⟨Nat.le_refl _⟩, ⟨pkn cz.1⟩, ⟨pbk aa.1⟩, ⟨pbg⟩⟩
 clear H'
 try clear c4 c6 dI bj cr db dH
 obtain ⟨aM, ab, rfl, HA, cv, ac, aa, HB⟩ := hrel
 obtain _ | k2 := gk
 ·exact absurd HA.1 (by simp [r22_Tree.l0])
 have H := HA.1
 clear HA
 simp only [r22_Tree.l0] at H
 replace H := ifl H
 rcases H with ⟨cd, H⟩ | ⟨cd, H⟩
 rotate_left
 ·simp only [Option.some.injEq, Prod.mk.injEq] at H
  obtain ⟨rfl, rfl, rfl⟩ := H
  obtain ⟨d5, ee, dx⟩ := Kd.N_slice ac.1
  subst dx
  go_wp2
  go_ret3
  exact ⟨_, per, by (with_reducible repeat (first | apply Kd.N_alloc | apply Kd.N_drewN | apply Kd.N_drew)); exact Kd.N_mono ac.1 (fun _ hk => hk.1), pbg⟩
 replace H := ifp H
 obtain ⟨dj, H⟩ := H
 have cI := decide_eq_true dj
 clear dj
 obtain ⟨cG, bY⟩ : ∃ b_ : Bool, b_ = ((rd_T73 aM ab).f3) := ⟨_, rfl⟩
 replace H : (if cG = true then (r22_Tree.l0 k2 a1 aM (wrap64 (ab + 1)) ak ai aj) else ((r22_Enabled.f k2 ak ai aj ((rd_T73 aM ab).f2)).bind fun aw => (r22_Tree.l1 k2 a1 aM ab aw 0 ak ai aj))) = some (r1, r2, r3) := by rw [← bY] at H; exact H
 have bw := am bY
 clear bY
 by_cases cJ : cG = true
 ·subst cJ
  rw [if_pos rfl] at H
  have H' := am H
  clear H
  obtain ⟨dW, d6, dn⟩ := Kd.N_slice ac.1
  subst dn
  have bs : 0 ≤ (ab : Int) := dq
  have bu : ab < (aM.length : Int) := dq
  obtain ⟨bc, cj, ck, cm, bM, bN, bl, bm, bf, bd⟩ := at_T73 (Kd.N_reads' ac.1).2.2 ab bs bu
  (try rw [← bw.1] at bm)
  cases cm
  obtain ⟨cN, bH, bG, bq⟩ := Kd.N_get ac.1 z73 ab bs (by first | exact bu | exact dq | (have e_ := (Kd.N_reads' ac.1).1; omega))
  obtain ⟨b7, b8, rfl, aQ, aN⟩ := k73_openF bG
  have aD := bq 2 _ rfl
  rw [add_field _ _ 2 (by omega)] at aD
  replace aD := Option.some.inj (aD.symm.trans bl)
  injection aD with hva_ hvn_ hvc_
  rw [hva_] at aN
  rw [hvc_] at aQ
  have a4 := am (show Kd.V (Kd.int .i64) 3 _ w.heap.size _ _ ((rd_T73 aM ab).f2) from Kd.V_mk aQ aN)
  clear hva_ hvn_ hvc_ aN aQ bq bH
  have a5 := am bd
  have b5 := am bf
  clear bd bf
  replace bs := eq_true bs
  replace bu := eq_true bu
  go_wp2
  go_roundg k2
  case measure => have := cu.1; have := cv.1; omega
  case rel => exact ⟨(aM), (wrap64 (ab + 1)), prs, H', ⟨by have := cu.1; have := cv.1; omega⟩, ⟨pkn ac.1⟩, ⟨pbk aa.1⟩, ⟨pbg⟩⟩
 replace cJ := Bool.eq_false_iff.mpr cJ
 subst cJ
 rw [if_neg Bool.false_ne_true] at H
 replace H := bnd H
 obtain ⟨aw, dR, H⟩ := H
 (try dsimp only at H)
 have H' := am H
 clear H
 obtain ⟨dX, d7, dp⟩ := Kd.N_slice ac.1
 subst dp
 have bs : 0 ≤ (ab : Int) := dq
 have bu : ab < (aM.length : Int) := dq
 obtain ⟨bc, cj, ck, cm, bM, bN, bl, bm, bf, bd⟩ := at_T73 (Kd.N_reads' ac.1).2.2 ab bs bu
 (try rw [← bw.1] at bm)
 cases cm
 obtain ⟨cN, bH, bG, bq⟩ := Kd.N_get ac.1 z73 ab bs (by first | exact bu | exact dq | (have e_ := (Kd.N_reads' ac.1).1; omega))
 obtain ⟨b7, b8, rfl, aQ, aN⟩ := k73_openF bG
 have aD := bq 2 _ rfl
 rw [add_field _ _ 2 (by omega)] at aD
 replace aD := Option.some.inj (aD.symm.trans bl)
 injection aD with hva_ hvn_ hvc_
 rw [hva_] at aN
 rw [hvc_] at aQ
 have a4 := am (show Kd.V (Kd.int .i64) 3 _ w.heap.size _ _ ((rd_T73 aM ab).f2) from Kd.V_mk aQ aN)
 clear hva_ hvn_ hvc_ aN aQ bq bH
 have a5 := am bd
 have b5 := am bf
 clear bd bf
 replace bs := eq_true bs
 replace bu := eq_true bu
 try go_wp2
 replace ac := am (Kd.N_drew ac.1)
 replace a4 := am (Kd.V_drew a4.1)
 replace aa := am (blk_drew aa.1)
 replace a5 := am (Kd.C_drew a5.1)
 replace HB := am (below_drew1 HB.1)
 have b3 : 0 ≤ (ab : Int) := dq
 have b4 : ab < (aM.length : Int) := dq
 obtain ⟨cE, bU, bV, dk, bA, bB, bn, bo, bL, bK⟩ := at_T73 (Kd.N_reads' ac.1).2.2 ab b3 b4
 (try rw [← bw.1] at bo)
 obtain rfl : bc = cE := (by injection dk)
 obtain ⟨dQ, co, cn, bZ⟩ := Kd.N_get ac.1 z73 ab b3 (by first | exact b4 | exact dq | (have e_ := (Kd.N_reads' ac.1).1; omega))
 obtain ⟨df, dg, rfl, bD, bz⟩ := k73_openF cn
 have bk := bZ 2 _ rfl
 rw [add_field _ _ 2 (by omega)] at bk
 replace bk := Option.some.inj (bk.symm.trans bn)
 injection bk with hva_ hvn_ hvc_
 rw [hva_] at bz
 rw [hvc_] at bD
 have bx := am (show Kd.V (Kd.int .i64) 3 _ w.heap.size _ _ ((rd_T73 aM ab).f2) from Kd.V_mk bD bz)
 clear hva_ hvn_ hvc_ bz bD bZ co
 have bb := am bK
 have b6 := am bL
 clear bK bL
 replace b3 := eq_true b3
 replace b4 := eq_true b4
 refine start_ (n := 8) (S := fun w' => w'.cell? ⟨af, 0, none⟩ = some (.string ak) ∧ w'.cell? ⟨af, 1, none⟩ = some (.slice a6 ai.length a8) ∧ w'.cell? ⟨af, 2, none⟩ = some (.slice a7 aj.length a9) ∧ w'.cell? (bc.add ((ab).toNat * 4)) = some (.int .i64 ((rd_T73 aM ab).f0)) ∧ w'.cell? ⟨(bc.add ((ab).toNat * 4)).block, (bc.add ((ab).toNat * 4)).off + 1, none⟩ = some (.int .i64 ((rd_T73 aM ab).f1)) ∧ w'.cell? ⟨(bc.add ((ab).toNat * 4)).block, (bc.add ((ab).toNat * 4)).off + 2, none⟩ = some (.slice bU ((rd_T73 aM ab).f2).length bV) ∧ w'.cell? ⟨(bc.add ((ab).toNat * 4)).block, (bc.add ((ab).toNat * 4)).off + 3, none⟩ = some (.bool (false))) (ds := []) #[false, false, false, false, false, false, false, false] (by kernel_rfl) rfl rfl ⟨(blk_cell aa.1 0).trans rfl, (blk_cell aa.1 1).trans rfl, (blk_cell aa.1 2).trans rfl, bA, bB, bn, bo⟩ (fun hHeld => ?_); refine with_tabW r22_Tree.tab12 r22_Tree.bits12 (fun HT_ HW_ => ?_)
 generalize wr.drew = eB at ac a4 aa a5 HB bx bb bA bB bn bo hHeld ⊢
 refine pu HT_.1 1 44 ?_
 refine pu HT_.1 2 45 ?_
 refine pu HT_.1 3 46 ?_
 refine pu HT_.1 4 47 ?_
 refine tk HT_.1 HW_.1 hHeld 0 43 ?_
 refine tk HT_.1 HW_.1 hHeld 5 48 ?_
 refine on HT_.1 6 (some 49) rfl fun K hK => ?_
 refine goes_ Try.func49 (by kernel_rfl) rfl #[.agg #[.string ak, .slice a6 ai.length a8, .slice a7 aj.length a9], .slice bU ((rd_T73 aM ab).f2).length bV] (by rfl) rfl rfl pgz ?_
 with_reducible refine (r22_Enabled.calls k2 ak _ _ ai _ _ aj _ _ ((rd_T73 aM ab).f2) aw _ ?side1 ?side2 ?side3 ?side4 ?side5 ?side6 dR.1).mono ?_
 (case side1 => exact csb aW HB)
 (case side2 => exact aT.1)
 (case side3 => exact csb aX HB)
 (case side4 => exact aU.1)
 (case side5 => exact csd bb.1)
 (case side6 => exact b6.1)
 rintro e eC ⟨cX, rfl, bg, hb⟩
 have HS3_ := (hb.cell (World.block_lt_of_cell? _ _ (hHeld.2.2.2.1))).trans (hHeld.2.2.2.1)
 have HS4_ := (hb.cell (World.block_lt_of_cell? _ _ (hHeld.2.2.2.2.1))).trans (hHeld.2.2.2.2.1)
 have HS5_ := (hb.cell (World.block_lt_of_cell? _ _ (hHeld.2.2.2.2.2.1))).trans (hHeld.2.2.2.2.2.1)
 have HS6_ := (hb.cell (World.block_lt_of_cell? _ _ (hHeld.2.2.2.2.2.2))).trans (hHeld.2.2.2.2.2.2)
 refine ⟨_, rfl, ?_⟩
 have cA := am (Kd.R_lower (Kd.R_newM (M := fun k_ => (w.heap.size ≤ k_)) bg (below_size pbg) (fun k_ h_ => h_)) (below_size pbg))
 replace ac := am (Kd.N_elder' (pkn ac.1) (Kd.R_base bg) hb)
 replace a4 := am (Kd.V_elder' (pkv a4.1) (Kd.R_base bg) hb)
 replace bx := am (Kd.V_elder' (pkv bx.1) (Kd.R_base bg) hb)
 replace aa := bbh aa hb
 replace a5 := cbb a5 hb
 replace bb := cbb bb hb
 replace HB := bst hb
 (try clear hb)
 (try clear dy)
 (try clear hk)
 (try clear hi)
 (try clear bg)
 refine hK.out _ _ ⟨(blk_cell aa.1 0).trans rfl, (blk_cell aa.1 1).trans rfl, (blk_cell aa.1 2).trans rfl, HS3_, HS4_, HS5_, HS6_⟩ (fun hHeld => ?_)
 clear hK K
 refine nm_ 49 ?_
 refine pu HT_.1 7 9 ?_
 refine done_ (done_of HT_.1 (by kernel_rfl)) ?_
 try go_wp2
 go_loopg [7, 10] k2 (fun kq v7 ej w' => ∃ (ao : List (S73)) (al : Int), ej = .int .i64 al ∧ Aside0 (r22_Tree.l1 kq a1 ao ab aw al ak ai aj = some (r1, r2, r3)) ∧ Aside0 (kq ≤ k2) ∧ Aside0 (Kd.N k73 73 w' w.heap.size (fun k_ => (w.heap.size ≤ k_) ∧ some k_ ≠ (cX : Value).ownBlock ∧ k_ ≠ af) v7 ao) ∧ Aside0 (Kd.R (Kd.int .i64) 3 w' w.heap.size (fun k_ => (w.heap.size ≤ k_)) cX aw) ∧ Aside0 (w'.heap[af]? = some (.cells #[.string ak, (.slice a6 ai.length a8), (.slice a7 aj.length a9)] 25 (0, 0))) ∧ Aside0 (Below w.heap.size w w'))
 case atStart => exact ⟨(aM), (0), prs, H', ⟨Nat.le_refl _⟩, ⟨by (with_reducible repeat (first | apply Kd.N_alloc | apply Kd.N_drewN | apply Kd.N_drew)); exact Kd.N_mono ac.1 (fun _ hk => ⟨hk.1.1, ⟨hk.2, hk.1.2⟩⟩)⟩, ⟨by (with_reducible repeat (first | apply Kd.R_alloc | apply Kd.R_drewN | apply Kd.R_drew)); exact Kd.R_mono cA.1 (fun _ hk => hk.1)⟩, ⟨pbk aa.1⟩, ⟨pbg⟩⟩
 clear H'
 try clear c4 c6 dI bj ew ex cd dj cI cJ cr db dH bM bN bl bm bA bB bn bo bs b3 bu b4
 obtain ⟨ao, al, rfl, HA, dc, ac, ap, aa, HB⟩ := hrel
 obtain _ | k3 := gk
 ·exact absurd HA.1 (by simp [r22_Tree.l1])
 have H := HA.1
 clear HA
 simp only [r22_Tree.l1] at H
 replace H := ifl H
 rcases H with ⟨cK, H⟩ | ⟨cK, H⟩
 rotate_left
 ·have H' := am H
  clear H
  obtain ⟨d4, ed, dw⟩ := Kd.R_slice ap.1
  subst dw
  go_wp2
  go_roundg k3
  case measure => have := cu.1; have := cv.1; have := dc.1; omega
  case rel => exact ⟨(ao), (wrap64 (ab + 1)), prs, H', ⟨by have := cu.1; have := cv.1; have := dc.1; omega⟩, ⟨by (with_reducible repeat (first | apply Kd.N_alloc | apply Kd.N_drewN | apply Kd.N_drew)); exact Kd.N_mono ac.1 (fun _ hk => ⟨hk.1, hk.2.2⟩)⟩, ⟨pbk aa.1⟩, ⟨pbg⟩⟩
 replace H := ifp H
 obtain ⟨dJ, H⟩ := H
 have dK := decide_eq_true dJ
 clear dJ
 replace H := ifp H
 obtain ⟨dL, H⟩ := H
 have dM := decide_eq_true dL
 clear dL
 replace H := ifp H
 obtain ⟨dN, H⟩ := H
 have dO := decide_eq_true dN
 clear dN
 replace H := bnd H
 obtain ⟨⟨bT, dG⟩, dh, H⟩ := H
 (try dsimp only at H)
 cases dG
 ·rw [if_neg Bool.false_ne_true] at H
  simp only [Option.some.injEq, Prod.mk.injEq] at H
  obtain ⟨rfl, rfl, rfl⟩ := H
  obtain ⟨d2, ea, dv⟩ := Kd.R_slice ap.1
  subst dv
  try go_wp2
  replace ac := am (Kd.N_drew ac.1)
  replace ap := am (Kd.R_drew ap.1)
  replace aa := am (blk_drew aa.1)
  replace HB := am (below_drew1 HB.1)
  obtain ⟨d3, ec, cU⟩ := Kd.N_slice ac.1
  (first | subst cU | (injection cU with f1_ f2_ f3_; have f4_ := f1_.symm; have f5_ := f3_.symm; clear f1_ f2_ f3_; subst f4_; subst f5_))
  have bh : 0 ≤ (ab : Int) := dq
  have bi : ab < (ao.length : Int) := dq
  obtain ⟨ah, aR, aY, bW, aI, aJ, au, av, aH, aG⟩ := at_T73 (Kd.N_reads' ac.1).2.2 ab bh bi
  (try rw [← bw.1] at av)
  cases bW
  obtain ⟨ce, br, bp, aZ⟩ := Kd.N_get ac.1 z73 ab bh (by first | exact bi | exact dq | (have e_ := (Kd.N_reads' ac.1).1; omega))
  obtain ⟨bP, bQ, rfl, ax, ar⟩ := k73_openF bp
  have aq := aZ 2 _ rfl
  rw [add_field _ _ 2 (by omega)] at aq
  replace aq := Option.some.inj (aq.symm.trans au)
  injection aq with hva_ hvn_ hvc_
  rw [hva_] at ar
  rw [hvc_] at ax
  have ag := am (show Kd.V (Kd.int .i64) 3 _ w.heap.size _ _ ((rd_T73 ao ab).f2) from Kd.V_mk ax ar)
  clear hva_ hvn_ hvc_ ar ax aZ br
  have ae := am aG
  have ba := am aH
  clear aG aH
  replace bh := eq_true bh
  replace bi := eq_true bi
  obtain ⟨cV, cW, aE, bX, aK⟩ := dint (Kd.R_reads' ap.1).2.2 al
  cases bX
  refine start_ (n := 16) (S := fun w' => w'.cell? ⟨af, 0, none⟩ = some (.string ak) ∧ w'.cell? ⟨af, 1, none⟩ = some (.slice a6 ai.length a8) ∧ w'.cell? ⟨af, 2, none⟩ = some (.slice a7 aj.length a9) ∧ w'.cell? (ah.add ((ab).toNat * 4)) = some (.int .i64 ((rd_T73 ao ab).f0)) ∧ w'.cell? ⟨(ah.add ((ab).toNat * 4)).block, (ah.add ((ab).toNat * 4)).off + 1, none⟩ = some (.int .i64 ((rd_T73 ao ab).f1)) ∧ w'.cell? ⟨(ah.add ((ab).toNat * 4)).block, (ah.add ((ab).toNat * 4)).off + 2, none⟩ = some (.slice aR ((rd_T73 ao ab).f2).length aY) ∧ w'.cell? ⟨(ah.add ((ab).toNat * 4)).block, (ah.add ((ab).toNat * 4)).off + 3, none⟩ = some (.bool ((rd_T73 ao ab).f3)) ∧ w'.cell? (aE.add (al).toNat) = some (.int .i64 (rd aw al))) (ds := []) #[false, false, false, false, false, false, false, false, false, false, false, false, false, false, false, false] (by kernel_rfl) rfl rfl ⟨(blk_cell aa.1 0).trans rfl, (blk_cell aa.1 1).trans rfl, (blk_cell aa.1 2).trans rfl, aI, aJ, au, av, aK⟩ (fun hHeld => ?_); refine with_tabW r22_Tree.tab16 r22_Tree.bits16 (fun HT_ HW_ => ?_)
  generalize wr.drew = eJ at ac ap aa HB ag ae aI aJ au av aK hHeld ⊢
  refine pu HT_.1 1 58 ?_
  refine pu HT_.1 2 59 ?_
  refine pu HT_.1 3 60 ?_
  refine pu HT_.1 4 61 ?_
  refine pu HT_.1 6 63 ?_
  refine pu HT_.1 7 64 ?_
  refine pu HT_.1 8 65 ?_
  refine tk HT_.1 HW_.1 hHeld 0 57 ?_
  refine tk HT_.1 HW_.1 hHeld 5 62 ?_
  refine tk HT_.1 HW_.1 hHeld 9 66 ?_
  refine on HT_.1 10 (some 67) rfl fun K hK => ?_
  refine goes_ Try.func75 (by kernel_rfl) rfl #[.agg #[.string ak, .slice a6 ai.length a8, .slice a7 aj.length a9], .slice aR ((rd_T73 ao ab).f2).length aY, .int .i64 (rd aw al)] (by rfl) rfl rfl pgz ?_
  with_reducible refine (r22_Fire.calls k3 ak _ _ ai _ _ aj _ _ ((rd_T73 ao ab).f2) (rd aw al) bT false _ ?side1 ?side2 ?side3 ?side4 ?side5 ?side6 dh.1).mono ?_
  (case side1 => exact csb aW HB)
  (case side2 => exact aT.1)
  (case side3 => exact csb aX HB)
  (case side4 => exact aU.1)
  (case side5 => exact csd ae.1)
  (case side6 => exact ba.1)
  rintro e eK ⟨cY, rfl, bg, hb⟩
  have HS3_ := (hb.cell (World.block_lt_of_cell? _ _ (hHeld.2.2.2.1))).trans (hHeld.2.2.2.1)
  have HS4_ := (hb.cell (World.block_lt_of_cell? _ _ (hHeld.2.2.2.2.1))).trans (hHeld.2.2.2.2.1)
  have HS5_ := (hb.cell (World.block_lt_of_cell? _ _ (hHeld.2.2.2.2.2.1))).trans (hHeld.2.2.2.2.2.1)
  have HS6_ := (hb.cell (World.block_lt_of_cell? _ _ (hHeld.2.2.2.2.2.2.1))).trans (hHeld.2.2.2.2.2.2.1)
  have HS7_ := (hb.cell (World.block_lt_of_cell? _ _ (hHeld.2.2.2.2.2.2.2))).trans (hHeld.2.2.2.2.2.2.2)
  refine ⟨_, rfl, ?_⟩
  have aC := am (Kd.R_lower (Kd.R_new' (Kd.R_newM (M := fun k_ => (w.heap.size ≤ k_)) bg (below_size pbg) (fun k_ h_ => h_)) (Kd.R_lt (pkr ap.1))) (below_size pbg))
  replace ac := am (Kd.N_elder' (pkn ac.1) (Kd.R_base bg) hb)
  replace ap := am (Kd.R_elder' (pkr ap.1) (Kd.R_base bg) hb)
  replace ag := am (Kd.V_elder' (pkv ag.1) (Kd.R_base bg) hb)
  replace aa := bbh aa hb
  replace ae := cbb ae hb
  replace HB := bst hb
  (try clear hb)
  (try clear dy)
  (try clear hk)
  (try clear hi)
  (try clear bg)
  refine hK.out _ _ ⟨(blk_cell aa.1 0).trans rfl, (blk_cell aa.1 1).trans rfl, (blk_cell aa.1 2).trans rfl, HS3_, HS4_, HS5_, HS6_, HS7_⟩ (fun hHeld => ?_)
  clear hK K
  refine nm_ 67 ?_
  refine pu HT_.1 11 56 ?_
  refine pu HT_.1 12 68 ?_
  refine pu HT_.1 13 69 ?_
  refine pu HT_.1 14 11 ?_
  refine pu HT_.1 15 12 ?_
  refine done_ (done_of HT_.1 (by kernel_rfl)) ?_
  try go_wp2
  go_ret3
  exact ⟨_, per, knl, pbg⟩
 rw [if_pos rfl] at H
 replace H := ife H
 rcases H with ⟨cL, cM, H⟩ | ⟨cL, cM, H⟩
 ·simp only [Option.some.injEq, Prod.mk.injEq] at H
  obtain ⟨rfl, rfl, rfl⟩ := H
  obtain ⟨dY, d8, dr⟩ := Kd.R_slice ap.1
  subst dr
  try go_wp2
  replace ac := am (Kd.N_drew ac.1)
  replace ap := am (Kd.R_drew ap.1)
  replace aa := am (blk_drew aa.1)
  replace HB := am (below_drew1 HB.1)
  obtain ⟨dZ, d9, cR⟩ := Kd.N_slice ac.1
  (first | subst cR | (injection cR with f1_ f2_ f3_; have f4_ := f1_.symm; have f5_ := f3_.symm; clear f1_ f2_ f3_; subst f4_; subst f5_))
  have bh : 0 ≤ (ab : Int) := dq
  have bi : ab < (ao.length : Int) := dq
  obtain ⟨ah, aR, aY, bW, aI, aJ, au, av, aH, aG⟩ := at_T73 (Kd.N_reads' ac.1).2.2 ab bh bi
  (try rw [← bw.1] at av)
  cases bW
  obtain ⟨ce, br, bp, aZ⟩ := Kd.N_get ac.1 z73 ab bh (by first | exact bi | exact dq | (have e_ := (Kd.N_reads' ac.1).1; omega))
  obtain ⟨bP, bQ, rfl, ax, ar⟩ := k73_openF bp
  have aq := aZ 2 _ rfl
  rw [add_field _ _ 2 (by omega)] at aq
  replace aq := Option.some.inj (aq.symm.trans au)
  injection aq with hva_ hvn_ hvc_
  rw [hva_] at ar
  rw [hvc_] at ax
  have ag := am (show Kd.V (Kd.int .i64) 3 _ w.heap.size _ _ ((rd_T73 ao ab).f2) from Kd.V_mk ax ar)
  clear hva_ hvn_ hvc_ ar ax aZ br
  have ae := am aG
  have ba := am aH
  clear aG aH
  replace bh := eq_true bh
  replace bi := eq_true bi
  obtain ⟨cV, cW, aE, bX, aK⟩ := dint (Kd.R_reads' ap.1).2.2 al
  cases bX
  refine start_ (n := 16) (S := fun w' => w'.cell? ⟨af, 0, none⟩ = some (.string ak) ∧ w'.cell? ⟨af, 1, none⟩ = some (.slice a6 ai.length a8) ∧ w'.cell? ⟨af, 2, none⟩ = some (.slice a7 aj.length a9) ∧ w'.cell? (ah.add ((ab).toNat * 4)) = some (.int .i64 ((rd_T73 ao ab).f0)) ∧ w'.cell? ⟨(ah.add ((ab).toNat * 4)).block, (ah.add ((ab).toNat * 4)).off + 1, none⟩ = some (.int .i64 ((rd_T73 ao ab).f1)) ∧ w'.cell? ⟨(ah.add ((ab).toNat * 4)).block, (ah.add ((ab).toNat * 4)).off + 2, none⟩ = some (.slice aR ((rd_T73 ao ab).f2).length aY) ∧ w'.cell? ⟨(ah.add ((ab).toNat * 4)).block, (ah.add ((ab).toNat * 4)).off + 3, none⟩ = some (.bool ((rd_T73 ao ab).f3)) ∧ w'.cell? (aE.add (al).toNat) = some (.int .i64 (rd aw al))) (ds := []) #[false, false, false, false, false, false, false, false, false, false, false, false, false, false, false, false] (by kernel_rfl) rfl rfl ⟨(blk_cell aa.1 0).trans rfl, (blk_cell aa.1 1).trans rfl, (blk_cell aa.1 2).trans rfl, aI, aJ, au, av, aK⟩ (fun hHeld => ?_); refine with_tabW r22_Tree.tab16 r22_Tree.bits16 (fun HT_ HW_ => ?_)
  generalize wr.drew = eD at ac ap aa HB ag ae aI aJ au av aK hHeld ⊢
  refine pu HT_.1 1 58 ?_
  refine pu HT_.1 2 59 ?_
  refine pu HT_.1 3 60 ?_
  refine pu HT_.1 4 61 ?_
  refine pu HT_.1 6 63 ?_
  refine pu HT_.1 7 64 ?_
  refine pu HT_.1 8 65 ?_
  refine tk HT_.1 HW_.1 hHeld 0 57 ?_
  refine tk HT_.1 HW_.1 hHeld 5 62 ?_
  refine tk HT_.1 HW_.1 hHeld 9 66 ?_
  refine on HT_.1 10 (some 67) rfl fun K hK => ?_
  refine goes_ Try.func75 (by kernel_rfl) rfl #[.agg #[.string ak, .slice a6 ai.length a8, .slice a7 aj.length a9], .slice aR ((rd_T73 ao ab).f2).length aY, .int .i64 (rd aw al)] (by rfl) rfl rfl pgz ?_
  with_reducible refine (r22_Fire.calls k3 ak _ _ ai _ _ aj _ _ ((rd_T73 ao ab).f2) (rd aw al) bT true _ ?side1 ?side2 ?side3 ?side4 ?side5 ?side6 dh.1).mono ?_
  (case side1 => exact csb aW HB)
  (case side2 => exact aT.1)
  (case side3 => exact csb aX HB)
  (case side4 => exact aU.1)
  (case side5 => exact csd ae.1)
  (case side6 => exact ba.1)
  rintro e eE ⟨cY, rfl, bg, hb⟩
  have HS3_ := (hb.cell (World.block_lt_of_cell? _ _ (hHeld.2.2.2.1))).trans (hHeld.2.2.2.1)
  have HS4_ := (hb.cell (World.block_lt_of_cell? _ _ (hHeld.2.2.2.2.1))).trans (hHeld.2.2.2.2.1)
  have HS5_ := (hb.cell (World.block_lt_of_cell? _ _ (hHeld.2.2.2.2.2.1))).trans (hHeld.2.2.2.2.2.1)
  have HS6_ := (hb.cell (World.block_lt_of_cell? _ _ (hHeld.2.2.2.2.2.2.1))).trans (hHeld.2.2.2.2.2.2.1)
  have HS7_ := (hb.cell (World.block_lt_of_cell? _ _ (hHeld.2.2.2.2.2.2.2))).trans (hHeld.2.2.2.2.2.2.2)
  refine ⟨_, rfl, ?_⟩
  have aC := am (Kd.R_lower (Kd.R_new' (Kd.R_newM (M := fun k_ => (w.heap.size ≤ k_)) bg (below_size pbg) (fun k_ h_ => h_)) (Kd.R_lt (pkr ap.1))) (below_size pbg))
  replace ac := am (Kd.N_elder' (pkn ac.1) (Kd.R_base bg) hb)
  replace ap := am (Kd.R_elder' (pkr ap.1) (Kd.R_base bg) hb)
  replace ag := am (Kd.V_elder' (pkv ag.1) (Kd.R_base bg) hb)
  replace aa := bbh aa hb
  replace ae := cbb ae hb
  replace HB := bst hb
  (try clear hb)
  (try clear dy)
  (try clear hk)
  (try clear hi)
  (try clear bg)
  refine hK.out _ _ ⟨(blk_cell aa.1 0).trans rfl, (blk_cell aa.1 1).trans rfl, (blk_cell aa.1 2).trans rfl, HS3_, HS4_, HS5_, HS6_, HS7_⟩ (fun hHeld => ?_)
  clear hK K
  refine nm_ 67 ?_
  refine pu HT_.1 11 56 ?_
  refine pu HT_.1 12 68 ?_
  refine pu HT_.1 13 69 ?_
  refine pu HT_.1 14 11 ?_
  refine pu HT_.1 15 12 ?_
  refine done_ (done_of HT_.1 (by kernel_rfl)) ?_
  try go_wp2
  go_ret3
  exact ⟨_, per, by (with_reducible repeat (first | apply Kd.N_alloc | apply Kd.N_drewN | apply Kd.N_drew)); exact Kd.N_mono ac.1 (fun _ hk => hk.1.1), pbg⟩
 replace H := bnd H
 obtain ⟨bv, dS, H⟩ := H
 (try dsimp only at H)
 replace H := bnd H
 obtain ⟨bI, dU, H⟩ := H
 (try dsimp only at H)
 replace H := ifp H
 obtain ⟨dP, H⟩ := H
 have cC := am dP
 clear dP
 obtain ⟨da, b2⟩ : ∃ y_ : List (S73), y_ = (ao ++ [(⟨ab, rd aw al, bv, bI⟩ : S73)]) := ⟨_, rfl⟩
 replace H : (r22_Tree.l1 k3 a1 da ab aw (wrap64 (al + 1)) ak ai aj) = some (r1, r2, r3) := hrp b2 H
 have cD := am b2
 clear b2
 have H' := am H
 clear H
 obtain ⟨d0, bF, dt⟩ := Kd.R_slice ap.1
 subst dt
 try go_wp2
 replace ac := am (Kd.N_drew ac.1)
 replace ap := am (Kd.R_drew ap.1)
 replace aa := am (blk_drew aa.1)
 replace HB := am (below_drew1 HB.1)
 obtain ⟨d1, bS, cS⟩ := Kd.N_slice ac.1
 (first | subst cS | (injection cS with f1_ f2_ f3_; have f4_ := f1_.symm; have f5_ := f3_.symm; clear f1_ f2_ f3_; subst f4_; subst f5_))
 have bh : 0 ≤ (ab : Int) := dq
 have bi : ab < (ao.length : Int) := dq
 obtain ⟨ah, aR, aY, bW, aI, aJ, au, av, aH, aG⟩ := at_T73 (Kd.N_reads' ac.1).2.2 ab bh bi
 (try rw [← bw.1] at av)
 cases bW
 obtain ⟨ce, br, bp, aZ⟩ := Kd.N_get ac.1 z73 ab bh (by first | exact bi | exact dq | (have e_ := (Kd.N_reads' ac.1).1; omega))
 obtain ⟨bP, bQ, rfl, ax, ar⟩ := k73_openF bp
 have aq := aZ 2 _ rfl
 rw [add_field _ _ 2 (by omega)] at aq
 replace aq := Option.some.inj (aq.symm.trans au)
 injection aq with hva_ hvn_ hvc_
 rw [hva_] at ar
 rw [hvc_] at ax
 have ag := am (show Kd.V (Kd.int .i64) 3 _ w.heap.size _ _ ((rd_T73 ao ab).f2) from Kd.V_mk ax ar)
 clear hva_ hvn_ hvc_ ar ax aZ br
 have ae := am aG
 have ba := am aH
 clear aG aH
 replace bh := eq_true bh
 replace bi := eq_true bi
 obtain ⟨cV, cW, aE, bX, aK⟩ := dint (Kd.R_reads' ap.1).2.2 al
 cases bX
 refine start_ (n := 16) (S := fun w' => w'.cell? ⟨af, 0, none⟩ = some (.string ak) ∧ w'.cell? ⟨af, 1, none⟩ = some (.slice a6 ai.length a8) ∧ w'.cell? ⟨af, 2, none⟩ = some (.slice a7 aj.length a9) ∧ w'.cell? (ah.add ((ab).toNat * 4)) = some (.int .i64 ((rd_T73 ao ab).f0)) ∧ w'.cell? ⟨(ah.add ((ab).toNat * 4)).block, (ah.add ((ab).toNat * 4)).off + 1, none⟩ = some (.int .i64 ((rd_T73 ao ab).f1)) ∧ w'.cell? ⟨(ah.add ((ab).toNat * 4)).block, (ah.add ((ab).toNat * 4)).off + 2, none⟩ = some (.slice aR ((rd_T73 ao ab).f2).length aY) ∧ w'.cell? ⟨(ah.add ((ab).toNat * 4)).block, (ah.add ((ab).toNat * 4)).off + 3, none⟩ = some (.bool ((rd_T73 ao ab).f3)) ∧ w'.cell? (aE.add (al).toNat) = some (.int .i64 (rd aw al))) (ds := []) #[false, false, false, false, false, false, false, false, false, false, false, false, false, false, false, false] (by kernel_rfl) rfl rfl ⟨(blk_cell aa.1 0).trans rfl, (blk_cell aa.1 1).trans rfl, (blk_cell aa.1 2).trans rfl, aI, aJ, au, av, aK⟩ (fun hHeld => ?_); refine with_tabW r22_Tree.tab16 r22_Tree.bits16 (fun HT_ HW_ => ?_)
 generalize wr.drew = eF at ac ap aa HB ag ae aI aJ au av aK hHeld ⊢
 refine pu HT_.1 1 58 ?_
 refine pu HT_.1 2 59 ?_
 refine pu HT_.1 3 60 ?_
 refine pu HT_.1 4 61 ?_
 refine pu HT_.1 6 63 ?_
 refine pu HT_.1 7 64 ?_
 refine pu HT_.1 8 65 ?_
 refine tk HT_.1 HW_.1 hHeld 0 57 ?_
 refine tk HT_.1 HW_.1 hHeld 5 62 ?_
 refine tk HT_.1 HW_.1 hHeld 9 66 ?_
 refine on HT_.1 10 (some 67) rfl fun K hK => ?_
 refine goes_ Try.func75 (by kernel_rfl) rfl #[.agg #[.string ak, .slice a6 ai.length a8, .slice a7 aj.length a9], .slice aR ((rd_T73 ao ab).f2).length aY, .int .i64 (rd aw al)] (by rfl) rfl rfl pgz ?_
 with_reducible refine (r22_Fire.calls k3 ak _ _ ai _ _ aj _ _ ((rd_T73 ao ab).f2) (rd aw al) bT true _ ?side1 ?side2 ?side3 ?side4 ?side5 ?side6 dh.1).mono ?_
 (case side1 => exact csb aW HB)
 (case side2 => exact aT.1)
 (case side3 => exact csb aX HB)
 (case side4 => exact aU.1)
 (case side5 => exact csd ae.1)
 (case side6 => exact ba.1)
 rintro e eG ⟨cY, rfl, bg, hb⟩
 have HS3_ := (hb.cell (World.block_lt_of_cell? _ _ (hHeld.2.2.2.1))).trans (hHeld.2.2.2.1)
 have HS4_ := (hb.cell (World.block_lt_of_cell? _ _ (hHeld.2.2.2.2.1))).trans (hHeld.2.2.2.2.1)
 have HS5_ := (hb.cell (World.block_lt_of_cell? _ _ (hHeld.2.2.2.2.2.1))).trans (hHeld.2.2.2.2.2.1)
 have HS6_ := (hb.cell (World.block_lt_of_cell? _ _ (hHeld.2.2.2.2.2.2.1))).trans (hHeld.2.2.2.2.2.2.1)
 have HS7_ := (hb.cell (World.block_lt_of_cell? _ _ (hHeld.2.2.2.2.2.2.2))).trans (hHeld.2.2.2.2.2.2.2)
 refine ⟨_, rfl, ?_⟩
 have aC := am (Kd.R_lower (Kd.R_new' (Kd.R_newM (M := fun k_ => (w.heap.size ≤ k_)) bg (below_size pbg) (fun k_ h_ => h_)) (Kd.R_lt (pkr ap.1))) (below_size pbg))
 replace ac := am (Kd.N_elder' (pkn ac.1) (Kd.R_base bg) hb)
 replace ap := am (Kd.R_elder' (pkr ap.1) (Kd.R_base bg) hb)
 replace ag := am (Kd.V_elder' (pkv ag.1) (Kd.R_base bg) hb)
 replace aa := bbh aa hb
 replace ae := cbb ae hb
 replace HB := bst hb
 (try clear hb)
 (try clear dy)
 (try clear hk)
 (try clear hi)
 (try clear bg)
 refine hK.out _ _ ⟨(blk_cell aa.1 0).trans rfl, (blk_cell aa.1 1).trans rfl, (blk_cell aa.1 2).trans rfl, HS3_, HS4_, HS5_, HS6_, HS7_⟩ (fun hHeld => ?_)
 clear hK K
 refine nm_ 67 ?_
 refine pu HT_.1 11 56 ?_
 refine pu HT_.1 12 68 ?_
 refine pu HT_.1 13 69 ?_
 refine pu HT_.1 14 11 ?_
 refine pu HT_.1 15 12 ?_
 refine done_ (done_of HT_.1 (by kernel_rfl)) ?_
 obtain ⟨cx, cP, du⟩ := Kd.R_slice aC.1
 subst du
 try go_wp2_with (first | ((with_reducible refine gate_callee (f := 76) rfl ?_); refine gC 80 Try.func76 _ (r22_child.calls k3 _ _ ao ab (fun k_ => some k_ = (.slice cx bT.length cP : Value).ownBlock) _ _ bT bv _ (csd ((Kd.N_reads' ac.1).2.2)) ((Kd.N_reads' ac.1).2.1) (Kd.R_V (Kd.R_tight rfl (Kd.R_types (Kd.R_apart' (aC.1) (Kd.N_typed ac.1) (by decide)) aa.1 (by decide)))) dS.1) ?_; rintro e eq ⟨en, rfl, bg, hb⟩; refine ⟨_, rfl, ?_⟩; have aV := am (Kd.V_lower (Kd.V_mono (ok' := fun k_ => (w.heap.size ≤ k_) ∧ some k_ ≠ (.slice (some ah) ao.length bS : Value).ownBlock ∧ some k_ ≠ (.slice (some aE) aw.length bF : Value).ownBlock ∧ k_ ≠ af) bg (fun k_ hk_ => ⟨Or.elim hk_ (fun hs_ => ((Kd.R_types (Kd.R_apart' (aC.1) (Kd.N_typed ac.1) (by decide)) aa.1 (by decide)).1 k_ hs_.symm).1.1.1.1) (fun hn_ => (Nat.le_trans (below_size pbg) hn_)), Or.elim hk_ (fun hs_ => ((Kd.R_types (Kd.R_apart' (aC.1) (Kd.N_typed ac.1) (by decide)) aa.1 (by decide)).1 k_ hs_.symm).1.2) (fun hn_ => (Kd.fresh' (Kd.N_lt (pkn ac.1)) k_ hn_)), Or.elim hk_ (fun hs_ => ((Kd.R_types (Kd.R_apart' (aC.1) (Kd.N_typed ac.1) (by decide)) aa.1 (by decide)).1 k_ hs_.symm).1.1.2) (fun hn_ => (Kd.fresh' (Kd.R_lt (pkr ap.1)) k_ hn_)), Or.elim hk_ (fun hs_ => ((Kd.R_types (Kd.R_apart' (aC.1) (Kd.N_typed ac.1) (by decide)) aa.1 (by decide)).1 k_ hs_.symm).2) (fun hn_ => (Kd.freshB (g := af) (o := .cells #[.string ak, .slice a6 ai.length a8, .slice a7 aj.length a9] 25 (0, 0)) (by exact pbk aa.1) k_ hn_))⟩)) (below_size pbg)); replace ac := nbw ac hb; replace ap := rbw ap hb; replace ag := vbw ag hb; replace aC := rbw aC hb; replace aa := bbh aa hb; replace ae := cbb ae hb; replace HB := bst hb; (try clear hb); (try clear bg)))
 replace ac := am (Kd.N_drew ac.1)
 replace ap := am (Kd.R_drew ap.1)
 replace ag := am (Kd.V_drew ag.1)
 replace aC := am (Kd.R_drew aC.1)
 replace aV := am (Kd.V_drew aV.1)
 replace aa := am (blk_drew aa.1)
 replace ae := am (Kd.C_drew ae.1)
 replace HB := am (below_drew1 HB.1)
 obtain ⟨eh, ei, cF, dl, bO⟩ := dint (Kd.R_reads' ap.1).2.2 al
 obtain rfl : aE = cF := (by injection dl)
 obtain ⟨cy, cQ, cT⟩ := Kd.V_slice aV.1
 (first | subst cT | (injection cT with f1_ f2_ f3_; have f4_ := f1_.symm; have f5_ := f3_.symm; clear f1_ f2_ f3_; subst f4_; subst f5_))
 refine start_ (n := 14) (S := fun w' => w'.cell? (aE.add (al).toNat) = some (.int .i64 (rd aw al))) (ds := [11, 12]) #[false, false, false, false, false, false, false, false, false, false, false, false, false, false] (by kernel_rfl) rfl rfl (bO) (fun hHeld => ?_); refine with_tabW r22_Tree.tab22 r22_Tree.bits22 (fun HT_ HW_ => ?_)
 generalize eq.drew = eH at ac ap ag aC aV aa ae HB bO hHeld ⊢
 refine pu HT_.1 0 81 ?_
 refine pu HT_.1 1 82 ?_
 refine pu HT_.1 2 83 ?_
 refine pu HT_.1 3 84 ?_
 refine pu HT_.1 4 85 ?_
 refine pu HT_.1 6 87 ?_
 refine pu HT_.1 7 88 ?_
 refine pu HT_.1 8 89 ?_
 refine take_ (i := 5) (N := some 86) (v := ?_) (a' := ?_) #[true, true, true, true, true, true, true, true, true, false, false, false, false, false] rfl rfl (take_ofW HT_.1 HW_.1 (by kernel_rfl)) (fun _ _ _ h => h) (Or.inl ⟨by rfl, ?_⟩) hHeld ?_ ?_
 rotate_left
 ·intro w' s0
  go_simp
  with_reducible rfl
 rotate_left
 ·simp only [Act.put, List.setIfInBounds_toArray, List.set_cons_zero, List.set_cons_succ, i64_w, i32_w]
  rfl
 refine on HT_.1 9 (some 90) rfl fun K hK => ?_
 refine goes_ Try.func77 (by kernel_rfl) rfl #[.slice (some ah) ao.length bS, .slice cy bv.length cQ] (by rfl) rfl rfl pgz ?_
 with_reducible refine (r22_seen.calls k3 _ _ ao _ _ bv bI _ ?side1 ?side2 ?side3 ?side4 dU.1).mono ?_
 (case side1 => exact csd ((Kd.N_reads' ac.1).2.2))
 (case side2 => exact (Kd.N_reads' ac.1).2.1)
 (case side3 => exact csd ((Kd.V_reads' aV.1).2.2))
 (case side4 => exact (Kd.V_reads' aV.1).2.1)
 rintro e w' ⟨rfl, ⟨nd, rfl⟩⟩
 refine ⟨_, rfl, ?_⟩
 refine hK.out _ _ (hHeld) (fun hHeld => ?_)
 clear hK K
 refine nm_ 90 ?_
 refine pu HT_.1 10 91 ?_
 refine la HT_.1 11 (some 92) rfl fun K hK => ?_
 refine value_ (w1 := ?_) (v := ?_) (by rfl) rfl ?_ ?_
 rotate_left 2
 ·go_simp
  constructor
  ·rfl
  ·rfl
 refine hK.out _ _ ?_
 clear hK K
 refine nm_ 92 ?_
 refine la HT_.1 12 (some 93) rfl fun K hK => ?_
 refine Kd.N_append_step k73 (w0 := w) w.heap.size (by rfl) (.tmp 81) (.tmp 92) 69 73 (.agg #[(.int .i64 0), (.int .i64 0), (.slice none 0 0), (.bool false)]) 48 rfl Try.underlying69 info73 rfl (by decide) (by omega) (.slice (some ah) ao.length bS) ao (⟨ab, rd aw al, bv, bI⟩ : S73) [.int .i64 ab, .int .i64 (rd aw al), .slice cy bv.length cQ, .bool bI] (fun k_ => (w.heap.size ≤ k_) ∧ some k_ ≠ (.slice (some aE) aw.length bF : Value).ownBlock ∧ k_ ≠ af) (fun k_ => ((fun k_ => (w.heap.size ≤ k_) ∧ some k_ ≠ (.slice (some aE) aw.length bF : Value).ownBlock ∧ k_ ≠ af)) k_ ∧ some k_ ≠ (.slice (some ah) ao.length bS : Value).ownBlock) rfl rfl ?aP (fun _ hk => hk) ?aF ?aO ?aB ?aS ?aL ?_
 (case aP => exact (k73_mkF _ _ (⟨ab, rd aw al, bv, bI⟩ : S73) (Kd.V_reads' (Kd.V_mono (ok' := (fun k_ => ((fun k_ => (w.heap.size ≤ k_) ∧ some k_ ≠ (.slice (some aE) aw.length bF : Value).ownBlock ∧ k_ ≠ af)) k_ ∧ some k_ ≠ (.slice (some ah) ao.length bS : Value).ownBlock)) (aV.1) (fun k_ hk => ⟨⟨hk.1, ⟨hk.2.2.1, hk.2.2.2⟩⟩, hk.2.1⟩))).2.1 (Kd.V_F (e := 0) (base := 0) (Kd.V_mono (e := 0) (base := 0) (ok' := (fun k_ => ((fun k_ => (w.heap.size ≤ k_) ∧ some k_ ≠ (.slice (some aE) aw.length bF : Value).ownBlock ∧ k_ ≠ af)) k_ ∧ some k_ ≠ (.slice (some ah) ao.length bS : Value).ownBlock)) (aV.1) (fun k_ hk => ⟨⟨hk.1, ⟨hk.2.2.1, hk.2.2.2⟩⟩, hk.2.1⟩)))))
 (case aB => exact pbg)
 (case aF => exact (fun k_ hk => ⟨(Nat.le_trans (below_size pbg) hk), Kd.fresh' (Kd.R_lt (pkr ap.1)) k_ hk, Kd.freshB (g := af) (o := .cells #[.string ak, .slice a6 ai.length a8, .slice a7 aj.length a9] 25 (0, 0)) (by exact pbk aa.1) k_ hk⟩))
 (case aO => exact (by (with_reducible repeat (first | apply Kd.N_alloc | apply Kd.N_drewN | apply Kd.N_drew)); exact Kd.N_mono ac.1 (fun _ hk => ⟨hk.1.1, ⟨hk.1.2.1, hk.1.2.2⟩⟩)))
 (case aS => exact (below_size pbg))
 (case aL => have := cC.1; omega)
 intro eo eI ho hb hg hat
 rw [← cD.1] at ho
 have n0_ := am (Kd.R_over' (pkr ap.1) (Kd.N_typed (pkn ac.1)) (by decide) hg)
 have n1_ := (bgr aa hg (Kd.N_ne ac.1 aa.1 (by decide)))
 have n2_ := am (Kd.V_afterv (ok := (fun k_ => (w.heap.size ≤ k_) ∧ some k_ ≠ (.slice (some aE) aw.length bF : Value).ownBlock ∧ some k_ ≠ (.slice cx bT.length cP : Value).ownBlock ∧ k_ ≠ af)) (by (with_reducible repeat (first | apply Kd.V_alloc | apply Kd.V_drewN | apply Kd.V_drew)); exact Kd.V_mono ag.1 (fun _ hk => ⟨⟨hk.1.1.1, ⟨hk.1.1.2.1, ⟨hk.2, hk.1.1.2.2⟩⟩⟩, hk.1.2⟩)) hg hat)
 have n3_ := am (Kd.R_over' (pkr aC.1) (Kd.N_typed (pkn ac.1)) (by decide) hg)
 have n4_ := am (Kd.V_afterv (ok := (fun k_ => (w.heap.size ≤ k_) ∧ some k_ ≠ (.slice (some aE) aw.length bF : Value).ownBlock ∧ k_ ≠ af)) (by (with_reducible repeat (first | apply Kd.V_alloc | apply Kd.V_drewN | apply Kd.V_drew)); exact Kd.V_mono aV.1 (fun _ hk => ⟨⟨hk.1, ⟨hk.2.2.1, hk.2.2.2⟩⟩, hk.2.1⟩)) hg hat)
 have n5_ := am hb
 have n6_ := am ho
 clear ap aa ag aC aV HB ac
 have ap := n0_
 have aa := n1_
 have ag := n2_
 have aC := n3_
 have aV := n4_
 have HB := n5_
 have cB := n6_
 clear n0_ n1_ n2_ n3_ n4_ n5_ n6_ ho hb hg hat
 refine hK.out _ _ ?_
 clear hK K
 refine nm_ 93 ?_
 refine pu HT_.1 13 7 ?_
 refine done_ (done_of HT_.1 (by kernel_rfl)) ?_
 try go_wp2
 go_roundg k3
 case measure => have := cu.1; have := cv.1; have := dc.1; omega
 case rel => exact ⟨(da), (wrap64 (al + 1)), prs, H', ⟨by have := cu.1; have := cv.1; have := dc.1; omega⟩, ⟨pkn cB.1⟩, ⟨by (with_reducible repeat (first | apply Kd.R_alloc | apply Kd.R_drewN | apply Kd.R_drew)); exact Kd.R_mono ap.1 (fun _ hk => hk.1)⟩, ⟨pbk aa.1⟩, ⟨pbg⟩⟩

/-! ### r05_before: function 79 -/
def r05_before.l0 : Nat → List Int → List Int → Int → Option (Bool)
 | 0, _, _, _ => none
 | k + 1, x0, x1, x5 => if x5 < (x0.length : Int) then (if 0 ≤ x5 then (if x5 < (x1.length : Int) then (if (rd x0 x5) = (rd x1 x5) then (r05_before.l0 k x0 x1 (wrap64 (x5 + 1))) else ((r05_more.f (rd x1 x5) (rd x0 x5)).bind fun ae => (some ae))) else (none)) else (none)) else (some false)
def r05_before.f (k : Nat) (l0 : List Int) (l1 : List Int) : Option (Bool) := r05_before.l0 k l0 l1 0
theorem r05_before.mono_l : ∀ k, M3 r05_before.l0 k
 | 0 => fun _ _ _ r h => by simp [r05_before.l0] at h
 | k + 1 => by
  have ay := r05_before.mono_l k
  ·intro y0 y1 y2
   unfold r05_before.l0
   repeat' first | (with_reducible first | apply ay | apply lr | apply ln | apply li | refine lb ?_ fun _ => ?_)
theorem r05_before.mono : ∀ a0 a1 k, LeO (r05_before.f k a0 a1) (r05_before.f (k + 1) a0 a1) := by
 intro a0 a1 k
 have ay := r05_before.mono_l k
 unfold r05_before.f
 repeat' first | (with_reducible first | apply ay | apply lr | apply ln | apply li | refine lb ?_ fun _ => ?_)
set_option maxHeartbeats 8000000 in
set_option maxRecDepth 100000 in
theorem r05_before.calls (k : Nat) (A0 : Option Addr) (c0 : Nat) (l0 : List Int) (A1 : Option Addr) (c1 : Nat) (l1 : List Int) (r : Bool) (w : World) (aF : Kd.C (Kd.int .i64) w A0 l0.length l0) (hc0 : l0.length ≤ c0) (hr1 : Kd.C (Kd.int .i64) w A1 l1.length l1) (aE : l1.length ≤ c1) (h : r05_before.f k l0 l1 = some r) :
  Calls Try.prog 79 #[.slice A0 l0.length c0, .slice A1 l1.length c1] w fun e w' => e = .returned (.bool r) ∧ Drawn0 w w' := by
 have ap := am aF
 have aM := am hc0
 clear aF hc0
 have aq := am hr1
 have aN := am aE
 clear hr1 aE
 have H : (r05_before.l0 k l0 l1 0) = some r := h
 clear h
 have H' := am H
 clear H
 go_enter Try.func79, Try.ntmps79
 go_wp2
 repeat (go_quiet (fail); try go_wp2)
 go_loopg [5] k (fun kq v5 w' => ∃ (aa : Int), v5 = .int .i64 aa ∧ Aside0 (r05_before.l0 kq l0 l1 aa = some r) ∧ Aside0 (kq ≤ k) ∧ Drawn0 w w')
 case atStart => exact ⟨(0), prs, H', ⟨Nat.le_refl _⟩, pdr⟩
 clear H'
 try clear c1
 obtain ⟨aa, rfl, HA, aD, ⟨m1, rfl⟩⟩ := hrel
 obtain _ | k1 := gk
 ·exact absurd HA.1 (by simp [r05_before.l0])
 have H := HA.1
 clear HA
 simp only [r05_before.l0] at H
 replace H := ifl H
 rcases H with ⟨ar, H⟩ | ⟨ar, H⟩
 rotate_left
 ·obtain rfl := Option.some.inj H
  go_wp2
  repeat (go_quiet (fail); try go_wp2)
  go_ret
  exact ⟨prs, pdr⟩
 replace H := ifp H
 obtain ⟨c4, H⟩ := H
 have aG := decide_eq_true c4
 clear c4
 replace H := ifp H
 obtain ⟨c5, H⟩ := H
 have aH := decide_eq_true c5
 clear c5
 replace H := ife H
 rcases H with ⟨au, av, H⟩ | ⟨au, av, H⟩
 ·have H' := am H
  clear H
  obtain ⟨az, aB, af, ah, ab⟩ := dint ap.1 aa
  cases ah
  obtain ⟨aA, aC, ag, ai, ac⟩ := dint aq.1 aa
  cases ai
  go_wp2
  repeat (go_quiet (fail); try go_wp2)
  go_roundg k1
  case measure => have := aD.1; omega
  case rel => exact ⟨(wrap64 (aa + 1)), prs, H', ⟨by have := aD.1; omega⟩, pdr⟩
 replace H := bnd H
 obtain ⟨ae, A7, H⟩ := H
 (try dsimp only at H)
 obtain rfl := Option.some.inj H
 obtain ⟨az, aB, af, ah, ab⟩ := dint ap.1 aa
 cases ah
 obtain ⟨aA, aC, ag, ai, ac⟩ := dint aq.1 aa
 cases ai
 obtain ⟨aI, aK, aj, aw, al⟩ := dint aq.1 aa
 obtain rfl : ag = aj := (by injection aw)
 obtain ⟨aJ, aL, ak, ax, ao⟩ := dint ap.1 aa
 obtain rfl : af = ak := (by injection ax)
 iterate 4 (try go_wp2_with (first | (go_at_call 104; (with_reducible refine (r05_more.calls (rd l1 aa) (rd l0 aa) ae _ A7.1).mono ?_); rintro e w' ⟨rfl, ⟨nd, rfl⟩⟩; (try first | exact dw1 | exact dw2))); try go_quiet (first | (go_at_call 104; (with_reducible refine (r05_more.calls (rd l1 aa) (rd l0 aa) ae _ A7.1).mono ?_); rintro e w' ⟨rfl, ⟨nd, rfl⟩⟩; (try first | exact dw1 | exact dw2))))
 go_ret
 exact ⟨prs, pdr⟩

/-! ### r05_Maximal: function 38 -/
mutual
def r05_Maximal.l0 : Nat → List (List Int) → List (List Int) → Int → Option ((List (List Int)))
 | 0, _, _, _ => none
 | k + 1, x3, x4, x5 => if x5 < (x3.length : Int) then (r05_Maximal.l1 k x3 x4 x5 true 0) else (some x4)
def r05_Maximal.l1 : Nat → List (List Int) → List (List Int) → Int → Bool → Int → Option ((List (List Int)))
 | 0, _, _, _, _, _ => none
 | k + 1, x3, x4, x5, x6, x7 => if x7 < (x3.length : Int) then (if 0 ≤ x5 then (if x5 < (x3.length : Int) then (if 0 ≤ x7 then ((r04_Same.f k (rd_L11 x3 x5) (rd_L11 x3 x7)).bind fun eN => (if eN = true then (if x7 < x5 then (r05_Maximal.l1 k x3 x4 x5 false (wrap64 (x7 + 1))) else (r05_Maximal.l1 k x3 x4 x5 x6 (wrap64 (x7 + 1)))) else ((r05_Leq.f k (rd_L11 x3 x5) (rd_L11 x3 x7)).bind fun eO => (if eO = true then (r05_Maximal.l1 k x3 x4 x5 false (wrap64 (x7 + 1))) else (r05_Maximal.l1 k x3 x4 x5 x6 (wrap64 (x7 + 1))))))) else (none)) else (none)) else (none)) else (if x6 = true then (r05_Maximal.l2 k x3 x4 x5 ([] : List (List Int)) false 0) else (r05_Maximal.l0 k x3 x4 (wrap64 (x5 + 1))))
def r05_Maximal.l2 : Nat → List (List Int) → List (List Int) → Int → List (List Int) → Bool → Int → Option ((List (List Int)))
 | 0, _, _, _, _, _, _ => none
 | k + 1, x3, x4, x5, x9, x10, x11 => if x11 < (x4.length : Int) then (if x10 = true then (if 0 ≤ x11 then (if x9.length < 5864062014805 then (r05_Maximal.l2 k x3 x4 x5 (x9 ++ [rd_L11 x4 x11]) x10 (wrap64 (x11 + 1))) else (none)) else (none)) else (if 0 ≤ x5 then (if x5 < (x3.length : Int) then (if 0 ≤ x11 then ((r05_before.f k (rd_L11 x3 x5) (rd_L11 x4 x11)).bind fun eP => (if eP = true then ((r04_Copy.f k (rd_L11 x3 x5)).bind fun b2 => (if x9.length < 5864062014805 then ((some (x9 ++ [b2] : List (List Int))).bind fun du => (if du.length < 5864062014805 then (r05_Maximal.l2 k x3 x4 x5 (du ++ [rd_L11 x4 x11]) true (wrap64 (x11 + 1))) else (none))) else (none))) else (if x9.length < 5864062014805 then (r05_Maximal.l2 k x3 x4 x5 (x9 ++ [rd_L11 x4 x11]) x10 (wrap64 (x11 + 1))) else (none)))) else (none)) else (none)) else (none))) else (if x10 = true then (r05_Maximal.l0 k x3 x9 (wrap64 (x5 + 1))) else (if 0 ≤ x5 then (if x5 < (x3.length : Int) then ((r04_Copy.f k (rd_L11 x3 x5)).bind fun ch => (if x9.length < 5864062014805 then (r05_Maximal.l0 k x3 (x9 ++ [ch]) (wrap64 (x5 + 1))) else (none))) else (none)) else (none)))
end
def r05_Maximal.f (k : Nat) (l0 : List (List Int)) : Option ((List (List Int))) := (r05_Considered.f k l0).bind fun aa => (r05_Maximal.l0 k aa ([] : List (List Int)) 0)
theorem r05_Maximal.mono_l : ∀ k, M3 r05_Maximal.l0 k ∧ M5 r05_Maximal.l1 k ∧ M6 r05_Maximal.l2 k
 | 0 => ⟨fun _ _ _ r h => by simp [r05_Maximal.l0] at h, fun _ _ _ _ _ r h => by simp [r05_Maximal.l1] at h, fun _ _ _ _ _ _ r h => by simp [r05_Maximal.l2] at h⟩
 | k + 1 => by
  obtain ⟨fM, fN, fO⟩ := r05_Maximal.mono_l k
  refine ⟨?_, ?_, ?_⟩ <;> dsimp only [M3, M5, M6] <;> intros <;> (first | unfold r05_Maximal.l0 | unfold r05_Maximal.l1 | unfold r05_Maximal.l2) <;> repeat' first | (with_reducible first | apply fM | apply fN | apply fO | apply r04_Copy.mono | apply r04_Same.mono | apply r05_Considered.mono | apply r05_Leq.mono | apply r05_before.mono | apply lr | apply ln | apply li | refine lb ?_ fun _ => ?_)
theorem r05_Maximal.mono : ∀ a0 k, LeO (r05_Maximal.f k a0) (r05_Maximal.f (k + 1) a0) := by
 intro a0 k
 obtain ⟨fM, fN, fO⟩ := r05_Maximal.mono_l k
 unfold r05_Maximal.f
 repeat' first | (with_reducible first | apply fM | apply fN | apply fO | apply r04_Copy.mono | apply r04_Same.mono | apply r05_Considered.mono | apply r05_Leq.mono | apply r05_before.mono | apply lr | apply ln | apply li | refine lb ?_ fun _ => ?_)
set_option maxHeartbeats 8000000 in
set_option maxRecDepth 100000 in
theorem r05_Maximal.calls (k : Nat) (P0_ : Nat → Prop) (A0 : Option Addr) (c0 : Nat) (l0 : List (List Int)) (r : List (List Int)) (w : World) (hs0 : Kd.V (Kd.slice 3 (Kd.int .i64)) 39 w w.heap.size (fun k_ => P0_ k_) (.slice A0 l0.length c0) l0) (h : r05_Maximal.f k l0 = some r) :
  Calls Try.prog 38 #[.slice A0 l0.length c0] w fun e w' => ∃ v0_ : Value, e = .returned (v0_) ∧ Kd.N (Kd.slice 3 (Kd.int .i64)) 39 w' w.heap.size (fun k_ => (P0_ k_ ∨ w.heap.size ≤ k_)) v0_ r ∧ Below w.heap.size w w' := by
 have eR := am (show Kd.V (Kd.slice 3 (Kd.int .i64)) 39 w w.heap.size (fun k_ => (P0_ k_ ∨ w.heap.size ≤ k_)) (.slice A0 l0.length c0) l0 from Kd.V_mono hs0 (fun k_ hk => .inl hk))
 have HB := am (Below.refl w.heap.size w)
 have H := h
 unfold r05_Maximal.f at H
 clear h
 replace H := bnd H
 obtain ⟨aa, A2, H⟩ := H
 (try dsimp only at H)
 have H' := am H
 clear H
 go_enter Try.func38, Try.ntmps38
 iterate 4 (try go_wp2_with (first | (go_at_call 41; (with_reducible refine (r05_Considered.calls k (fun k_ => (P0_ k_ ∨ w.heap.size ≤ k_)) _ _ l0 aa _ ?side1 A2.1).mono ?_); (case side1 => exact eR.1); rintro e w3 ⟨eQ, rfl, bx, hb⟩; have en := am (Kd.N_lower (Kd.N_mono (ok' := fun k_ => (P0_ k_ ∨ w.heap.size ≤ k_)) bx (fun k_ hk_ => Or.elim hk_ (fun hs_ => hs_) (fun hn_ => (.inr (Nat.le_trans (below_size pbl) hn_))))) (below_size pbl)); replace eR := am (Kd.V_elder' (pkv eR.1) (Kd.N_base bx) hb); replace HB := bsl hb; (try clear hb); (try clear bx))); try go_quiet (first | (go_at_call 41; (with_reducible refine (r05_Considered.calls k (fun k_ => (P0_ k_ ∨ w.heap.size ≤ k_)) _ _ l0 aa _ ?side1 A2.1).mono ?_); (case side1 => exact eR.1); rintro e w3 ⟨eQ, rfl, bx, hb⟩; have en := am (Kd.N_lower (Kd.N_mono (ok' := fun k_ => (P0_ k_ ∨ w.heap.size ≤ k_)) bx (fun k_ hk_ => Or.elim hk_ (fun hs_ => hs_) (fun hn_ => (.inr (Nat.le_trans (below_size pbl) hn_))))) (below_size pbl)); replace eR := am (Kd.V_elder' (pkv eR.1) (Kd.N_base bx) hb); replace HB := bsl hb; (try clear hb); (try clear bx))))
 go_loopg [4, 5] k (fun kq v4 v5 w' => ∃ (af : List (List Int)) (ac : Int), v5 = .int .i64 ac ∧ Aside0 (r05_Maximal.l0 kq aa af ac = some r) ∧ Aside0 (kq ≤ k) ∧ Aside0 (Kd.N (Kd.slice 3 (Kd.int .i64)) 39 w' w.heap.size (fun k_ => (P0_ k_ ∨ w.heap.size ≤ k_) ∧ some k_ ≠ (v4 : Value).ownBlock) eQ aa) ∧ Aside0 (Kd.N (Kd.slice 3 (Kd.int .i64)) 39 w' w.heap.size (fun k_ => (P0_ k_ ∨ w.heap.size ≤ k_) ∧ some k_ ≠ (eQ : Value).ownBlock) v4 af) ∧ Aside0 (Below w.heap.size w w'))
 case atStart => exact ⟨(([] : List (List Int))), (0), prs, H', ⟨Nat.le_refl _⟩, ⟨by (with_reducible repeat (first | apply Kd.N_alloc | apply Kd.N_drewN | apply Kd.N_drew)); exact Kd.N_mono en.1 (fun _ hk => ⟨hk, (by simp [Value.ownBlock])⟩)⟩, ⟨knl⟩, ⟨pbg⟩⟩
 clear H'
 obtain ⟨af, ac, rfl, HA, ci, ab, ag, HB⟩ := hrel
 obtain _ | k1 := gk
 ·exact absurd HA.1 (by simp [r05_Maximal.l0])
 have H := HA.1
 clear HA
 simp only [r05_Maximal.l0] at H
 replace H := ifl H
 rcases H with ⟨ev, H⟩ | ⟨ev, H⟩
 rotate_left
 ·obtain rfl := Option.some.inj H
  obtain ⟨gp, gr, fL⟩ := Kd.N_slice ab.1
  subst fL
  go_wp2
  repeat (go_quiet (fail); try go_wp2)
  go_ret
  exact ⟨_, per, by (with_reducible repeat (first | apply Kd.N_alloc | apply Kd.N_drewN | apply Kd.N_drew)); exact Kd.N_mono ag.1 (fun _ hk => hk.1), pbg⟩
 have H' := am H
 clear H
 obtain ⟨dJ, bh, gs⟩ := Kd.N_slice ab.1
 subst gs
 go_wp2
 repeat (go_quiet (fail); try go_wp2)
 go_loopg [6, 7] k1 (fun kq v6 v7 w' => ∃ (dG : Bool) (ah : Int), v6 = .bool dG ∧ v7 = .int .i64 ah ∧ Aside0 (r05_Maximal.l1 kq aa af ac dG ah = some r) ∧ Aside0 (kq ≤ k1) ∧ Aside0 (Kd.N (Kd.slice 3 (Kd.int .i64)) 39 w' w.heap.size (fun k_ => (P0_ k_ ∨ w.heap.size ≤ k_) ∧ some k_ ≠ (u4 : Value).ownBlock) (.slice dJ aa.length bh) aa) ∧ Aside0 (Kd.N (Kd.slice 3 (Kd.int .i64)) 39 w' w.heap.size (fun k_ => (P0_ k_ ∨ w.heap.size ≤ k_) ∧ some k_ ≠ ((.slice dJ aa.length bh) : Value).ownBlock) u4 af) ∧ Aside0 (Below w.heap.size w w'))
 case atStart => exact ⟨(true), (0), prs, prs, H', ⟨Nat.le_refl _⟩, ⟨pkn ab.1⟩, ⟨pkn ag.1⟩, ⟨pbg⟩⟩
 clear H'
 try clear ev
 obtain ⟨dG, ah, rfl, rfl, HA, cj, ab, ag, HB⟩ := hrel
 obtain _ | k2 := gk
 ·exact absurd HA.1 (by simp [r05_Maximal.l1])
 have H := HA.1
 clear HA
 simp only [r05_Maximal.l1] at H
 replace H := ifl H
 rcases H with ⟨fb, H⟩ | ⟨fb, H⟩
 ·replace H := ifp H
  obtain ⟨c7, H⟩ := H
  have fA := decide_eq_true c7
  clear c7
  replace H := ifp H
  obtain ⟨c8, H⟩ := H
  have fB := decide_eq_true c8
  clear c8
  replace H := ifp H
  obtain ⟨c9, H⟩ := H
  have fC := decide_eq_true c9
  clear c9
  replace H := bnd H
  obtain ⟨eN, A10, H⟩ := H
  (try dsimp only at H)
  cases eN
  rotate_left
  ·rw [if_pos rfl] at H
   replace H := ifl H
   rcases H with ⟨ep, H⟩ | ⟨ep, H⟩
   ·have H' := am H
    clear H
    have bi : 0 ≤ (ac : Int) := dq
    have bm : ac < (aa.length : Int) := dq
    obtain ⟨a9, cU, cZ, df, aG, aY, aU⟩ := at_L11 (Kd.N_reads' ab.1).2.2 ac bi bm
    cases df
    obtain ⟨dN, bJ, bF, ba⟩ := Kd.N_get ab.1 [] ac bi (by first | exact bm | exact dq | (have e_ := (Kd.N_reads' ab.1).1; omega))
    obtain ⟨cH, cL, rfl, ay, au⟩ := Kd.FK_slice_open bF
    have ak := ba 0 _ rfl
    rw [Nat.add_zero, show ((Kd.slice 3 (Kd.int .i64))).sz = 1 from rfl, Nat.mul_one] at ak
    replace ak := Option.some.inj (ak.symm.trans aG)
    injection ak with hva_ hvn_ hvc_
    rw [hva_] at au
    rw [hvc_] at ay
    have cq := am (show Kd.V (Kd.int .i64) 3 _ w.heap.size _ _ (rd_L11 aa ac) from Kd.V_mk ay au)
    clear hva_ hvn_ hvc_ au ay ba bJ
    have ai := am aU
    have aK := am aY
    clear aU aY
    replace bi := eq_true bi
    replace bm := eq_true bm
    have bj : 0 ≤ (ah : Int) := dq
    have bn : ah < (aa.length : Int) := dq
    obtain ⟨b9, cV, da, dg, aH, aZ, aV⟩ := at_L11 (Kd.N_reads' ab.1).2.2 ah bj bn
    obtain rfl : a9 = b9 := (by injection dg)
    obtain ⟨dO, bK, bG, bb⟩ := Kd.N_get ab.1 [] ah bj (by first | exact bn | exact dq | (have e_ := (Kd.N_reads' ab.1).1; omega))
    obtain ⟨cI, cM, rfl, az, av⟩ := Kd.FK_slice_open bG
    have al := bb 0 _ rfl
    rw [Nat.add_zero, show ((Kd.slice 3 (Kd.int .i64))).sz = 1 from rfl, Nat.mul_one] at al
    replace al := Option.some.inj (al.symm.trans aH)
    injection al with hva_ hvn_ hvc_
    rw [hva_] at av
    rw [hvc_] at az
    have cr := am (show Kd.V (Kd.int .i64) 3 _ w.heap.size _ _ (rd_L11 aa ah) from Kd.V_mk az av)
    clear hva_ hvn_ hvc_ av az bb bK
    have aj := am aV
    have aM := am aZ
    clear aV aZ
    replace bj := eq_true bj
    replace bn := eq_true bn
    iterate 4 (try go_wp2_with (first | (go_at_call 19; (with_reducible refine (r04_Same.calls k2 _ _ (rd_L11 aa ac) _ _ (rd_L11 aa ah) true _ ?side1 ?side2 ?side3 ?side4 A10.1).mono ?_); (case side1 => exact csd ai.1); (case side2 => exact aK.1); (case side3 => exact csd aj.1); (case side4 => exact aM.1); rintro e w' ⟨rfl, ⟨nd, rfl⟩⟩; (try first | exact dw1 | exact dw2))); try go_quiet (first | (go_at_call 19; (with_reducible refine (r04_Same.calls k2 _ _ (rd_L11 aa ac) _ _ (rd_L11 aa ah) true _ ?side1 ?side2 ?side3 ?side4 A10.1).mono ?_); (case side1 => exact csd ai.1); (case side2 => exact aK.1); (case side3 => exact csd aj.1); (case side4 => exact aM.1); rintro e w' ⟨rfl, ⟨nd, rfl⟩⟩; (try first | exact dw1 | exact dw2))))
    go_roundg k2
    case measure => have := ci.1; have := cj.1; omega
    case rel => exact ⟨(false), (wrap64 (ah + 1)), prs, prs, H', ⟨by have := ci.1; have := cj.1; omega⟩, ⟨pkn ab.1⟩, ⟨pkn ag.1⟩, ⟨pbg⟩⟩
   have H' := am H
   clear H
   have bi : 0 ≤ (ac : Int) := dq
   have bm : ac < (aa.length : Int) := dq
   obtain ⟨a9, cU, cZ, df, aG, aY, aU⟩ := at_L11 (Kd.N_reads' ab.1).2.2 ac bi bm
   cases df
   obtain ⟨dN, bJ, bF, ba⟩ := Kd.N_get ab.1 [] ac bi (by first | exact bm | exact dq | (have e_ := (Kd.N_reads' ab.1).1; omega))
   obtain ⟨cH, cL, rfl, ay, au⟩ := Kd.FK_slice_open bF
   have ak := ba 0 _ rfl
   rw [Nat.add_zero, show ((Kd.slice 3 (Kd.int .i64))).sz = 1 from rfl, Nat.mul_one] at ak
   replace ak := Option.some.inj (ak.symm.trans aG)
   injection ak with hva_ hvn_ hvc_
   rw [hva_] at au
   rw [hvc_] at ay
   have cq := am (show Kd.V (Kd.int .i64) 3 _ w.heap.size _ _ (rd_L11 aa ac) from Kd.V_mk ay au)
   clear hva_ hvn_ hvc_ au ay ba bJ
   have ai := am aU
   have aK := am aY
   clear aU aY
   replace bi := eq_true bi
   replace bm := eq_true bm
   have bj : 0 ≤ (ah : Int) := dq
   have bn : ah < (aa.length : Int) := dq
   obtain ⟨b9, cV, da, dg, aH, aZ, aV⟩ := at_L11 (Kd.N_reads' ab.1).2.2 ah bj bn
   obtain rfl : a9 = b9 := (by injection dg)
   obtain ⟨dO, bK, bG, bb⟩ := Kd.N_get ab.1 [] ah bj (by first | exact bn | exact dq | (have e_ := (Kd.N_reads' ab.1).1; omega))
   obtain ⟨cI, cM, rfl, az, av⟩ := Kd.FK_slice_open bG
   have al := bb 0 _ rfl
   rw [Nat.add_zero, show ((Kd.slice 3 (Kd.int .i64))).sz = 1 from rfl, Nat.mul_one] at al
   replace al := Option.some.inj (al.symm.trans aH)
   injection al with hva_ hvn_ hvc_
   rw [hva_] at av
   rw [hvc_] at az
   have cr := am (show Kd.V (Kd.int .i64) 3 _ w.heap.size _ _ (rd_L11 aa ah) from Kd.V_mk az av)
   clear hva_ hvn_ hvc_ av az bb bK
   have aj := am aV
   have aM := am aZ
   clear aV aZ
   replace bj := eq_true bj
   replace bn := eq_true bn
   iterate 4 (try go_wp2_with (first | (go_at_call 19; (with_reducible refine (r04_Same.calls k2 _ _ (rd_L11 aa ac) _ _ (rd_L11 aa ah) true _ ?side1 ?side2 ?side3 ?side4 A10.1).mono ?_); (case side1 => exact csd ai.1); (case side2 => exact aK.1); (case side3 => exact csd aj.1); (case side4 => exact aM.1); rintro e w' ⟨rfl, ⟨nd, rfl⟩⟩; (try first | exact dw1 | exact dw2))); try go_quiet (first | (go_at_call 19; (with_reducible refine (r04_Same.calls k2 _ _ (rd_L11 aa ac) _ _ (rd_L11 aa ah) true _ ?side1 ?side2 ?side3 ?side4 A10.1).mono ?_); (case side1 => exact csd ai.1); (case side2 => exact aK.1); (case side3 => exact csd aj.1); (case side4 => exact aM.1); rintro e w' ⟨rfl, ⟨nd, rfl⟩⟩; (try first | exact dw1 | exact dw2))))
   go_roundg k2
   case measure => have := ci.1; have := cj.1; omega
   case rel => exact ⟨(dG), (wrap64 (ah + 1)), prs, prs, H', ⟨by have := ci.1; have := cj.1; omega⟩, ⟨pkn ab.1⟩, ⟨pkn ag.1⟩, ⟨pbg⟩⟩
  rw [if_neg Bool.false_ne_true] at H
  replace H := bnd H
  obtain ⟨eO, A13, H⟩ := H
  (try dsimp only at H)
  cases eO
  rotate_left
  ·rw [if_pos rfl] at H
   have H' := am H
   clear H
   have bi : 0 ≤ (ac : Int) := dq
   have bm : ac < (aa.length : Int) := dq
   obtain ⟨a9, cU, cZ, df, aG, aY, aU⟩ := at_L11 (Kd.N_reads' ab.1).2.2 ac bi bm
   cases df
   obtain ⟨dN, bJ, bF, ba⟩ := Kd.N_get ab.1 [] ac bi (by first | exact bm | exact dq | (have e_ := (Kd.N_reads' ab.1).1; omega))
   obtain ⟨cH, cL, rfl, ay, au⟩ := Kd.FK_slice_open bF
   have ak := ba 0 _ rfl
   rw [Nat.add_zero, show ((Kd.slice 3 (Kd.int .i64))).sz = 1 from rfl, Nat.mul_one] at ak
   replace ak := Option.some.inj (ak.symm.trans aG)
   injection ak with hva_ hvn_ hvc_
   rw [hva_] at au
   rw [hvc_] at ay
   have cq := am (show Kd.V (Kd.int .i64) 3 _ w.heap.size _ _ (rd_L11 aa ac) from Kd.V_mk ay au)
   clear hva_ hvn_ hvc_ au ay ba bJ
   have ai := am aU
   have aK := am aY
   clear aU aY
   replace bi := eq_true bi
   replace bm := eq_true bm
   have bj : 0 ≤ (ah : Int) := dq
   have bn : ah < (aa.length : Int) := dq
   obtain ⟨b9, cV, da, dg, aH, aZ, aV⟩ := at_L11 (Kd.N_reads' ab.1).2.2 ah bj bn
   obtain rfl : a9 = b9 := (by injection dg)
   obtain ⟨dO, bK, bG, bb⟩ := Kd.N_get ab.1 [] ah bj (by first | exact bn | exact dq | (have e_ := (Kd.N_reads' ab.1).1; omega))
   obtain ⟨cI, cM, rfl, az, av⟩ := Kd.FK_slice_open bG
   have al := bb 0 _ rfl
   rw [Nat.add_zero, show ((Kd.slice 3 (Kd.int .i64))).sz = 1 from rfl, Nat.mul_one] at al
   replace al := Option.some.inj (al.symm.trans aH)
   injection al with hva_ hvn_ hvc_
   rw [hva_] at av
   rw [hvc_] at az
   have cr := am (show Kd.V (Kd.int .i64) 3 _ w.heap.size _ _ (rd_L11 aa ah) from Kd.V_mk az av)
   clear hva_ hvn_ hvc_ av az bb bK
   have aj := am aV
   have aM := am aZ
   clear aV aZ
   replace bj := eq_true bj
   replace bn := eq_true bn
   have bk : 0 ≤ (ac : Int) := dq
   have bo : ac < (aa.length : Int) := dq
   obtain ⟨ca, cW, db, dh, aI, a1, aW⟩ := at_L11 (Kd.N_reads' ab.1).2.2 ac bk bo
   obtain rfl : a9 = ca := (by injection dh)
   obtain ⟨dP, bL, bH, bc⟩ := Kd.N_get ab.1 [] ac bk (by first | exact bo | exact dq | (have e_ := (Kd.N_reads' ab.1).1; omega))
   obtain ⟨cJ, cN, rfl, aA, aw⟩ := Kd.FK_slice_open bH
   have ao := bc 0 _ rfl
   rw [Nat.add_zero, show ((Kd.slice 3 (Kd.int .i64))).sz = 1 from rfl, Nat.mul_one] at ao
   replace ao := Option.some.inj (ao.symm.trans aI)
   injection ao with hva_ hvn_ hvc_
   rw [hva_] at aw
   rw [hvc_] at aA
   have cu := am (show Kd.V (Kd.int .i64) 3 _ w.heap.size _ _ (rd_L11 aa ac) from Kd.V_mk aA aw)
   clear hva_ hvn_ hvc_ aw aA
   clear bc bL
   have aR := am aW
   have bq := am a1
   clear aW a1
   replace bk := eq_true bk
   replace bo := eq_true bo
   have ea_ := Option.some.inj (aG.symm.trans aI)
   injection ea_ with ea_ en_ ec_
   subst ea_
   subst ec_
   clear en_
   have bl : 0 ≤ (ah : Int) := dq
   have bp : ah < (aa.length : Int) := dq
   obtain ⟨cb, cX, dc, di, aJ, a2, aX⟩ := at_L11 (Kd.N_reads' ab.1).2.2 ah bl bp
   obtain rfl : a9 = cb := (by injection di)
   obtain ⟨dQ, bM, bI, bd⟩ := Kd.N_get ab.1 [] ah bl (by first | exact bp | exact dq | (have e_ := (Kd.N_reads' ab.1).1; omega))
   obtain ⟨cK, cO, rfl, aC, ax⟩ := Kd.FK_slice_open bI
   have ap := bd 0 _ rfl
   rw [Nat.add_zero, show ((Kd.slice 3 (Kd.int .i64))).sz = 1 from rfl, Nat.mul_one] at ap
   replace ap := Option.some.inj (ap.symm.trans aJ)
   injection ap with hva_ hvn_ hvc_
   rw [hva_] at ax
   rw [hvc_] at aC
   have cv := am (show Kd.V (Kd.int .i64) 3 _ w.heap.size _ _ (rd_L11 aa ah) from Kd.V_mk aC ax)
   clear hva_ hvn_ hvc_ ax aC
   clear bd bM
   have aT := am aX
   have br := am a2
   clear aX a2
   replace bl := eq_true bl
   replace bp := eq_true bp
   have ea_ := Option.some.inj (aH.symm.trans aJ)
   injection ea_ with ea_ en_ ec_
   subst ea_
   subst ec_
   clear en_
   iterate 4 (try go_wp2_with (first | (go_at_call 19; (with_reducible refine (r04_Same.calls k2 _ _ (rd_L11 aa ac) _ _ (rd_L11 aa ah) false _ ?side1 ?side2 ?side3 ?side4 A10.1).mono ?_); (case side1 => exact csd ai.1); (case side2 => exact aK.1); (case side3 => exact csd aj.1); (case side4 => exact aM.1); rintro e w' ⟨rfl, ⟨nd, rfl⟩⟩; (try first | exact dw1 | exact dw2)) | (go_at_call 78; (with_reducible refine (r05_Leq.calls k2 _ _ (rd_L11 aa ac) _ _ (rd_L11 aa ah) true _ ?side1 ?side2 ?side3 ?side4 A13.1).mono ?_); (case side1 => exact csd aR.1); (case side2 => exact bq.1); (case side3 => exact csd aT.1); (case side4 => exact br.1); rintro e w' ⟨rfl, ⟨nd, rfl⟩⟩; (try first | exact dw1 | exact dw2))); try go_quiet (first | (go_at_call 19; (with_reducible refine (r04_Same.calls k2 _ _ (rd_L11 aa ac) _ _ (rd_L11 aa ah) false _ ?side1 ?side2 ?side3 ?side4 A10.1).mono ?_); (case side1 => exact csd ai.1); (case side2 => exact aK.1); (case side3 => exact csd aj.1); (case side4 => exact aM.1); rintro e w' ⟨rfl, ⟨nd, rfl⟩⟩; (try first | exact dw1 | exact dw2)) | (go_at_call 78; (with_reducible refine (r05_Leq.calls k2 _ _ (rd_L11 aa ac) _ _ (rd_L11 aa ah) true _ ?side1 ?side2 ?side3 ?side4 A13.1).mono ?_); (case side1 => exact csd aR.1); (case side2 => exact bq.1); (case side3 => exact csd aT.1); (case side4 => exact br.1); rintro e w' ⟨rfl, ⟨nd, rfl⟩⟩; (try first | exact dw1 | exact dw2))))
   go_roundg k2
   case measure => have := ci.1; have := cj.1; omega
   case rel => exact ⟨(false), (wrap64 (ah + 1)), prs, prs, H', ⟨by have := ci.1; have := cj.1; omega⟩, ⟨pkn ab.1⟩, ⟨pkn ag.1⟩, ⟨pbg⟩⟩
  rw [if_neg Bool.false_ne_true] at H
  have H' := am H
  clear H
  have bi : 0 ≤ (ac : Int) := dq
  have bm : ac < (aa.length : Int) := dq
  obtain ⟨a9, cU, cZ, df, aG, aY, aU⟩ := at_L11 (Kd.N_reads' ab.1).2.2 ac bi bm
  cases df
  obtain ⟨dN, bJ, bF, ba⟩ := Kd.N_get ab.1 [] ac bi (by first | exact bm | exact dq | (have e_ := (Kd.N_reads' ab.1).1; omega))
  obtain ⟨cH, cL, rfl, ay, au⟩ := Kd.FK_slice_open bF
  have ak := ba 0 _ rfl
  rw [Nat.add_zero, show ((Kd.slice 3 (Kd.int .i64))).sz = 1 from rfl, Nat.mul_one] at ak
  replace ak := Option.some.inj (ak.symm.trans aG)
  injection ak with hva_ hvn_ hvc_
  rw [hva_] at au
  rw [hvc_] at ay
  have cq := am (show Kd.V (Kd.int .i64) 3 _ w.heap.size _ _ (rd_L11 aa ac) from Kd.V_mk ay au)
  clear hva_ hvn_ hvc_ au ay ba bJ
  have ai := am aU
  have aK := am aY
  clear aU aY
  replace bi := eq_true bi
  replace bm := eq_true bm
  have bj : 0 ≤ (ah : Int) := dq
  have bn : ah < (aa.length : Int) := dq
  obtain ⟨b9, cV, da, dg, aH, aZ, aV⟩ := at_L11 (Kd.N_reads' ab.1).2.2 ah bj bn
  obtain rfl : a9 = b9 := (by injection dg)
  obtain ⟨dO, bK, bG, bb⟩ := Kd.N_get ab.1 [] ah bj (by first | exact bn | exact dq | (have e_ := (Kd.N_reads' ab.1).1; omega))
  obtain ⟨cI, cM, rfl, az, av⟩ := Kd.FK_slice_open bG
  have al := bb 0 _ rfl
  rw [Nat.add_zero, show ((Kd.slice 3 (Kd.int .i64))).sz = 1 from rfl, Nat.mul_one] at al
  replace al := Option.some.inj (al.symm.trans aH)
  injection al with hva_ hvn_ hvc_
  rw [hva_] at av
  rw [hvc_] at az
  have cr := am (show Kd.V (Kd.int .i64) 3 _ w.heap.size _ _ (rd_L11 aa ah) from Kd.V_mk az av)
  clear hva_ hvn_ hvc_ av az bb bK
  have aj := am aV
  have aM := am aZ
  clear aV aZ
  replace bj := eq_true bj
  replace bn := eq_true bn
  have bk : 0 ≤ (ac : Int) := dq
  have bo : ac < (aa.length : Int) := dq
  obtain ⟨ca, cW, db, dh, aI, a1, aW⟩ := at_L11 (Kd.N_reads' ab.1).2.2 ac bk bo
  obtain rfl : a9 = ca := (by injection dh)
  obtain ⟨dP, bL, bH, bc⟩ := Kd.N_get ab.1 [] ac bk (by first | exact bo | exact dq | (have e_ := (Kd.N_reads' ab.1).1; omega))
  obtain ⟨cJ, cN, rfl, aA, aw⟩ := Kd.FK_slice_open bH
  have ao := bc 0 _ rfl
  rw [Nat.add_zero, show ((Kd.slice 3 (Kd.int .i64))).sz = 1 from rfl, Nat.mul_one] at ao
  replace ao := Option.some.inj (ao.symm.trans aI)
  injection ao with hva_ hvn_ hvc_
  rw [hva_] at aw
  rw [hvc_] at aA
  have cu := am (show Kd.V (Kd.int .i64) 3 _ w.heap.size _ _ (rd_L11 aa ac) from Kd.V_mk aA aw)
  clear hva_ hvn_ hvc_ aw aA
  clear bc bL
  have aR := am aW
  have bq := am a1
  clear aW a1
  replace bk := eq_true bk
  replace bo := eq_true bo
  have ea_ := Option.some.inj (aG.symm.trans aI)
  injection ea_ with ea_ en_ ec_
  subst ea_
  subst ec_
  clear en_
  have bl : 0 ≤ (ah : Int) := dq
  have bp : ah < (aa.length : Int) := dq
  obtain ⟨cb, cX, dc, di, aJ, a2, aX⟩ := at_L11 (Kd.N_reads' ab.1).2.2 ah bl bp
  obtain rfl : a9 = cb := (by injection di)
  obtain ⟨dQ, bM, bI, bd⟩ := Kd.N_get ab.1 [] ah bl (by first | exact bp | exact dq | (have e_ := (Kd.N_reads' ab.1).1; omega))
  obtain ⟨cK, cO, rfl, aC, ax⟩ := Kd.FK_slice_open bI
  have ap := bd 0 _ rfl
  rw [Nat.add_zero, show ((Kd.slice 3 (Kd.int .i64))).sz = 1 from rfl, Nat.mul_one] at ap
  replace ap := Option.some.inj (ap.symm.trans aJ)
  injection ap with hva_ hvn_ hvc_
  rw [hva_] at ax
  rw [hvc_] at aC
  have cv := am (show Kd.V (Kd.int .i64) 3 _ w.heap.size _ _ (rd_L11 aa ah) from Kd.V_mk aC ax)
  clear hva_ hvn_ hvc_ ax aC
  clear bd bM
  have aT := am aX
  have br := am a2
  clear aX a2
  replace bl := eq_true bl
  replace bp := eq_true bp
  have ea_ := Option.some.inj (aH.symm.trans aJ)
  injection ea_ with ea_ en_ ec_
  subst ea_
  subst ec_
  clear en_
  iterate 4 (try go_wp2_with (first | (go_at_call 19; (with_reducible refine (r04_Same.calls k2 _ _ (rd_L11 aa ac) _ _ (rd_L11 aa ah) false _ ?side1 ?side2 ?side3 ?side4 A10.1).mono ?_); (case side1 => exact csd ai.1); (case side2 => exact aK.1); (case side3 => exact csd aj.1); (case side4 => exact aM.1); rintro e w' ⟨rfl, ⟨nd, rfl⟩⟩; (try first | exact dw1 | exact dw2)) | (go_at_call 78; (with_reducible refine (r05_Leq.calls k2 _ _ (rd_L11 aa ac) _ _ (rd_L11 aa ah) false _ ?side1 ?side2 ?side3 ?side4 A13.1).mono ?_); (case side1 => exact csd aR.1); (case side2 => exact bq.1); (case side3 => exact csd aT.1); (case side4 => exact br.1); rintro e w' ⟨rfl, ⟨nd, rfl⟩⟩; (try first | exact dw1 | exact dw2))); try go_quiet (first | (go_at_call 19; (with_reducible refine (r04_Same.calls k2 _ _ (rd_L11 aa ac) _ _ (rd_L11 aa ah) false _ ?side1 ?side2 ?side3 ?side4 A10.1).mono ?_); (case side1 => exact csd ai.1); (case side2 => exact aK.1); (case side3 => exact csd aj.1); (case side4 => exact aM.1); rintro e w' ⟨rfl, ⟨nd, rfl⟩⟩; (try first | exact dw1 | exact dw2)) | (go_at_call 78; (with_reducible refine (r05_Leq.calls k2 _ _ (rd_L11 aa ac) _ _ (rd_L11 aa ah) false _ ?side1 ?side2 ?side3 ?side4 A13.1).mono ?_); (case side1 => exact csd aR.1); (case side2 => exact bq.1); (case side3 => exact csd aT.1); (case side4 => exact br.1); rintro e w' ⟨rfl, ⟨nd, rfl⟩⟩; (try first | exact dw1 | exact dw2))))
  go_roundg k2
  case measure => have := ci.1; have := cj.1; omega
  case rel => exact ⟨(dG), (wrap64 (ah + 1)), prs, prs, H', ⟨by have := ci.1; have := cj.1; omega⟩, ⟨pkn ab.1⟩, ⟨pkn ag.1⟩, ⟨pbg⟩⟩
 cases dG
 ·rw [if_neg Bool.false_ne_true] at H
  have H' := am H
  clear H
  go_wp2
  repeat (go_quiet (fail); try go_wp2)
  go_roundg k2
  case measure => have := ci.1; have := cj.1; omega
  case rel => exact ⟨(af), (wrap64 (ac + 1)), prs, H', ⟨by have := ci.1; have := cj.1; omega⟩, ⟨pkn ab.1⟩, ⟨pkn ag.1⟩, ⟨pbg⟩⟩
 rw [if_pos rfl] at H
 have H' := am H
 clear H
 go_wp2
 repeat (go_quiet (fail); try go_wp2)
 go_loopg [9, 10, 11] k2 (fun kq v9 gu gv w' => ∃ (b3 : List (List Int)) (cT : Bool) (ae : Int), gu = .bool cT ∧ gv = .int .i64 ae ∧ Aside0 (r05_Maximal.l2 kq aa af ac b3 cT ae = some r) ∧ Aside0 (kq ≤ k2) ∧ Aside0 (Kd.N (Kd.slice 3 (Kd.int .i64)) 39 w' w.heap.size (fun k_ => (P0_ k_ ∨ w.heap.size ≤ k_) ∧ some k_ ≠ (u4 : Value).ownBlock ∧ some k_ ≠ (v9 : Value).ownBlock) (.slice dJ aa.length bh) aa) ∧ Aside0 (Kd.N (Kd.slice 3 (Kd.int .i64)) 39 w' w.heap.size (fun k_ => (P0_ k_ ∨ w.heap.size ≤ k_) ∧ some k_ ≠ ((.slice dJ aa.length bh) : Value).ownBlock ∧ some k_ ≠ (v9 : Value).ownBlock) u4 af) ∧ Aside0 (Kd.N (Kd.slice 3 (Kd.int .i64)) 39 w' w.heap.size (fun k_ => (P0_ k_ ∨ w.heap.size ≤ k_) ∧ some k_ ≠ ((.slice dJ aa.length bh) : Value).ownBlock ∧ some k_ ≠ (u4 : Value).ownBlock) v9 b3) ∧ Aside0 (Below w.heap.size w w'))
 case atStart => exact ⟨(([] : List (List Int))), (false), (0), prs, prs, H', ⟨Nat.le_refl _⟩, ⟨by (with_reducible repeat (first | apply Kd.N_alloc | apply Kd.N_drewN | apply Kd.N_drew)); exact Kd.N_mono ab.1 (fun _ hk => ⟨hk.1, ⟨hk.2, (by simp [Value.ownBlock])⟩⟩)⟩, ⟨by (with_reducible repeat (first | apply Kd.N_alloc | apply Kd.N_drewN | apply Kd.N_drew)); exact Kd.N_mono ag.1 (fun _ hk => ⟨hk.1, ⟨hk.2, (by simp [Value.ownBlock])⟩⟩)⟩, ⟨knl⟩, ⟨pbg⟩⟩
 clear H'
 try clear c4 ev c6 fb c7 fA c8 fB c9 fC gD gE ep gF aG aH aI aJ bi bj bk bl bm bn bo bp
 obtain ⟨b3, cT, ae, rfl, rfl, HA, d1, ab, ag, bg, HB⟩ := hrel
 obtain _ | k3 := gk
 ·exact absurd HA.1 (by simp [r05_Maximal.l2])
 have H := HA.1
 clear HA
 simp only [r05_Maximal.l2] at H
 replace H := ifl H
 rcases H with ⟨fa, H⟩ | ⟨fa, H⟩
 rotate_left
 ·cases cT
  rotate_left
  ·rw [if_pos rfl] at H
   have H' := am H
   clear H
   obtain ⟨gn, gq, fJ⟩ := Kd.N_slice ag.1
   subst fJ
   go_wp2
   repeat (go_quiet (fail); try go_wp2)
   go_roundg k3
   case measure => have := ci.1; have := cj.1; have := d1.1; omega
   case rel => exact ⟨(b3), (wrap64 (ac + 1)), prs, H', ⟨by have := ci.1; have := cj.1; have := d1.1; omega⟩, ⟨by (with_reducible repeat (first | apply Kd.N_alloc | apply Kd.N_drewN | apply Kd.N_drew)); exact Kd.N_mono ab.1 (fun _ hk => ⟨hk.1, hk.2.2⟩)⟩, ⟨by (with_reducible repeat (first | apply Kd.N_alloc | apply Kd.N_drewN | apply Kd.N_drew)); exact Kd.N_mono bg.1 (fun _ hk => ⟨hk.1, hk.2.1⟩)⟩, ⟨pbg⟩⟩
  rw [if_neg Bool.false_ne_true] at H
  replace H := ifp H
  obtain ⟨ga, H⟩ := H
  have gb := decide_eq_true ga
  clear ga
  replace H := ifp H
  obtain ⟨gc, H⟩ := H
  have ge := decide_eq_true gc
  clear gc
  replace H := bnd H
  obtain ⟨ch, fS, H⟩ := H
  (try dsimp only at H)
  replace H := ifp H
  obtain ⟨gf, H⟩ := H
  have e0 := am gf
  clear gf
  obtain ⟨fg, dW⟩ : ∃ y_ : List (List Int), y_ = (b3 ++ [ch]) := ⟨_, rfl⟩
  replace H : (r05_Maximal.l0 k3 aa fg (wrap64 (ac + 1))) = some r := hrp dW H
  have e4 := am dW
  clear dW
  have H' := am H
  clear H
  obtain ⟨dD, dF, fK⟩ := Kd.N_slice ag.1
  subst fK
  have d7 : 0 ≤ (ac : Int) := dq
  have ea : ac < (aa.length : Int) := dq
  obtain ⟨cn, fy, fz, fD, d4, dz, dw⟩ := at_L11 (Kd.N_reads' ab.1).2.2 ac d7 ea
  cases fD
  obtain ⟨gg, eK, eH, dS⟩ := Kd.N_get ab.1 [] ac d7 (by first | exact ea | exact dq | (have e_ := (Kd.N_reads' ab.1).1; omega))
  obtain ⟨fq, fv, rfl, cP, cw⟩ := Kd.FK_slice_open eH
  have b6 := dS 0 _ rfl
  rw [Nat.add_zero, show ((Kd.slice 3 (Kd.int .i64))).sz = 1 from rfl, Nat.mul_one] at b6
  replace b6 := Option.some.inj (b6.symm.trans d4)
  injection b6 with hva_ hvn_ hvc_
  rw [hva_] at cw
  rw [hvc_] at cP
  have bE := am (show Kd.V (Kd.int .i64) 3 _ w.heap.size _ _ (rd_L11 aa ac) from Kd.V_mk cP cw)
  clear hva_ hvn_ hvc_ cw cP dS eK
  have bf := am dw
  have dv := am dz
  clear dw dz
  replace d7 := eq_true d7
  replace ea := eq_true ea
  iterate 4 (try go_wp2_with (first | (go_at_call 43; (with_reducible refine (r04_Copy.calls k3 _ _ (rd_L11 aa ac) ch _ ?side1 ?side2 fS.1).mono ?_); (case side1 => exact csd bf.1); (case side2 => exact dv.1); rintro e gB ⟨fP, rfl, bx, hb⟩; have ck := am (Kd.R_lower (Kd.R_newM (M := fun k_ => (w.heap.size ≤ k_)) bx (below_size pbl) (fun k_ h_ => h_)) (below_size pbl)); replace ab := am (Kd.N_elder' (pkn ab.1) (Kd.R_base bx) hb); replace ag := am (Kd.N_elder' (pkn ag.1) (Kd.R_base bx) hb); replace bg := am (Kd.N_elder' (pkn bg.1) (Kd.R_base bx) hb); replace bE := am (Kd.V_elder' (pkv bE.1) (Kd.R_base bx) hb); replace bf := cbb bf hb; replace HB := bsl hb; (try clear hb); (try clear bx); obtain ⟨dI, dR, eG⟩ := Kd.R_slice ck.1; subst eG) | ((with_reducible refine gate_builtin (b := .append) (xs := #[.tmp 94, .tmp 100]) rfl ?_); at_builtin; refine Kd.N_append (Kd.slice 3 (Kd.int .i64)) (w0 := w) w.heap.size rfl (.tmp 94) (.tmp 100) 30 39 (.slice none 0 0) 24 rfl Try.underlying30 info39 rfl (by decide) (by omega) u9 b3 ch [.slice dI ch.length dR] (fun k_ => (P0_ k_ ∨ w.heap.size ≤ k_) ∧ some k_ ≠ (.slice (some cn) aa.length bh : Value).ownBlock ∧ some k_ ≠ (.slice dD af.length dF : Value).ownBlock) (fun k_ => ((fun k_ => (P0_ k_ ∨ w.heap.size ≤ k_) ∧ some k_ ≠ (.slice (some cn) aa.length bh : Value).ownBlock ∧ some k_ ≠ (.slice dD af.length dF : Value).ownBlock)) k_ ∧ some k_ ≠ (u9 : Value).ownBlock) rfl rfl ?aP (fun _ hk => hk) ?aF ?aO ?aB ?aS ?aL ?_; (case aP => exact (Kd.FK_slice_mk (Kd.R_reads' (Kd.R_mono (ok' := (fun k_ => ((fun k_ => (P0_ k_ ∨ w.heap.size ≤ k_) ∧ some k_ ≠ (.slice (some cn) aa.length bh : Value).ownBlock ∧ some k_ ≠ (.slice dD af.length dF : Value).ownBlock)) k_ ∧ some k_ ≠ (u9 : Value).ownBlock)) (Kd.R_apart' (Kd.R_apart' (Kd.R_apart' (ck.1) (Kd.N_typed ab.1) (by decide)) (Kd.N_typed ag.1) (by decide)) (Kd.N_typed bg.1) (by decide)) (fun k_ hk => ⟨⟨(.inr (hk.1.1.1.1)), ⟨hk.1.1.2, hk.1.2⟩⟩, hk.2⟩))).2.1 (Kd.R_F (Kd.R_mono (ok' := (fun k_ => ((fun k_ => (P0_ k_ ∨ w.heap.size ≤ k_) ∧ some k_ ≠ (.slice (some cn) aa.length bh : Value).ownBlock ∧ some k_ ≠ (.slice dD af.length dF : Value).ownBlock)) k_ ∧ some k_ ≠ (u9 : Value).ownBlock)) (Kd.R_apart' (Kd.R_apart' (Kd.R_apart' (ck.1) (Kd.N_typed ab.1) (by decide)) (Kd.N_typed ag.1) (by decide)) (Kd.N_typed bg.1) (by decide)) (fun k_ hk => ⟨⟨(.inr (hk.1.1.1.1)), ⟨hk.1.1.2, hk.1.2⟩⟩, hk.2⟩))))); (case aB => exact pbl); (case aF => exact (fun k_ hk => ⟨(.inr (Nat.le_trans (below_size pbl) hk)), Kd.fresh' (Kd.N_lt (pkn ab.1)) k_ hk, Kd.fresh' (Kd.N_lt (pkn ag.1)) k_ hk⟩)); (case aO => exact (by (with_reducible repeat (first | apply Kd.N_alloc | apply Kd.N_drewN | apply Kd.N_drew)); exact Kd.N_mono bg.1 (fun _ hk => ⟨hk.1.1, ⟨hk.1.2.1, hk.1.2.2⟩⟩))); (case aS => exact (below_size pbl)); (case aL => have := e0.1; omega); intro gw gK ho hb hg hat; rw [← e4.1] at ho; have eS := am ho; replace ab := am (Kd.N_afterv (ok := (fun k_ => (P0_ k_ ∨ w.heap.size ≤ k_) ∧ some k_ ≠ (.slice dD af.length dF : Value).ownBlock ∧ some k_ ≠ (.slice dI ch.length dR : Value).ownBlock)) (by (with_reducible repeat (first | apply Kd.N_alloc | apply Kd.N_drewN | apply Kd.N_drew)); exact Kd.N_mono ab.1 (fun _ hk => ⟨⟨hk.1.1, ⟨hk.1.2.1, hk.2⟩⟩, hk.1.2.2⟩)) hg hat); replace ag := am (Kd.N_afterv (ok := (fun k_ => (P0_ k_ ∨ w.heap.size ≤ k_) ∧ some k_ ≠ (.slice (some cn) aa.length bh : Value).ownBlock ∧ some k_ ≠ (.slice dI ch.length dR : Value).ownBlock)) (by (with_reducible repeat (first | apply Kd.N_alloc | apply Kd.N_drewN | apply Kd.N_drew)); exact Kd.N_mono ag.1 (fun _ hk => ⟨⟨hk.1.1, ⟨hk.1.2.1, hk.2⟩⟩, hk.1.2.2⟩)) hg hat); replace bE := am (Kd.V_afterv (ok := (fun k_ => (P0_ k_ ∨ w.heap.size ≤ k_) ∧ some k_ ≠ (.slice (some cn) aa.length bh : Value).ownBlock ∧ some k_ ≠ (.slice dD af.length dF : Value).ownBlock ∧ some k_ ≠ (.slice dI ch.length dR : Value).ownBlock)) (by (with_reducible repeat (first | apply Kd.V_alloc | apply Kd.V_drewN | apply Kd.V_drew)); exact Kd.V_mono bE.1 (fun _ hk => ⟨⟨hk.1.1.1, ⟨hk.1.2, ⟨hk.1.1.2.1, hk.2⟩⟩⟩, hk.1.1.2.2⟩)) hg hat); replace HB := am hb; (try clear bg ck); clear ho hb hg hat)); try go_quiet (first | (go_at_call 43; (with_reducible refine (r04_Copy.calls k3 _ _ (rd_L11 aa ac) ch _ ?side1 ?side2 fS.1).mono ?_); (case side1 => exact csd bf.1); (case side2 => exact dv.1); rintro e gB ⟨fP, rfl, bx, hb⟩; have ck := am (Kd.R_lower (Kd.R_newM (M := fun k_ => (w.heap.size ≤ k_)) bx (below_size pbl) (fun k_ h_ => h_)) (below_size pbl)); replace ab := am (Kd.N_elder' (pkn ab.1) (Kd.R_base bx) hb); replace ag := am (Kd.N_elder' (pkn ag.1) (Kd.R_base bx) hb); replace bg := am (Kd.N_elder' (pkn bg.1) (Kd.R_base bx) hb); replace bE := am (Kd.V_elder' (pkv bE.1) (Kd.R_base bx) hb); replace bf := cbb bf hb; replace HB := bsl hb; (try clear hb); (try clear bx); obtain ⟨dI, dR, eG⟩ := Kd.R_slice ck.1; subst eG)))
  go_roundg k3
  case measure => have := ci.1; have := cj.1; have := d1.1; omega
  case rel => exact ⟨(fg), (wrap64 (ac + 1)), prs, H', ⟨by have := ci.1; have := cj.1; have := d1.1; omega⟩, ⟨by (with_reducible repeat (first | apply Kd.N_alloc | apply Kd.N_drewN | apply Kd.N_drew)); exact Kd.N_mono ab.1 (fun _ hk => ⟨hk.1.1, hk.2⟩)⟩, ⟨by (with_reducible repeat (first | apply Kd.N_alloc | apply Kd.N_drewN | apply Kd.N_drew)); exact Kd.N_mono eS.1 (fun _ hk => ⟨hk.1, hk.2.1⟩)⟩, ⟨pbg⟩⟩
 cases cT
 rotate_left
 ·rw [if_pos rfl] at H
  replace H := ifp H
  obtain ⟨fT, H⟩ := H
  have fU := decide_eq_true fT
  clear fT
  replace H := ifp H
  obtain ⟨fV, H⟩ := H
  have eW := am fV
  clear fV
  obtain ⟨fh, dX⟩ : ∃ y_ : List (List Int), y_ = (b3 ++ [rd_L11 af ae]) := ⟨_, rfl⟩
  replace H : (r05_Maximal.l2 k3 aa af ac fh true (wrap64 (ae + 1))) = some r := hrp dX H
  have e5 := am dX
  clear dX
  have H' := am H
  clear H
  obtain ⟨gj, dE, fG⟩ := Kd.N_slice ag.1
  subst fG
  have d8 : 0 ≤ (ae : Int) := dq
  have ec : ae < (af.length : Int) := dq
  obtain ⟨co, eq, ew, fE, d5, dB, dx⟩ := at_L11 (Kd.N_reads' ag.1).2.2 ae d8 ec
  cases fE
  obtain ⟨gh, eL, eI, dU⟩ := Kd.N_get ag.1 [] ae d8 (by first | exact ec | exact dq | (have e_ := (Kd.N_reads' ag.1).1; omega))
  obtain ⟨ft, fw, rfl, cQ, cx⟩ := Kd.FK_slice_open eI
  have b7 := dU 0 _ rfl
  rw [Nat.add_zero, show ((Kd.slice 3 (Kd.int .i64))).sz = 1 from rfl, Nat.mul_one] at b7
  replace b7 := Option.some.inj (b7.symm.trans d5)
  injection b7 with hva_ hvn_ hvc_
  rw [hva_] at cx
  rw [hvc_] at cQ
  have b4 := am (show Kd.V (Kd.int .i64) 3 _ w.heap.size _ _ (rd_L11 af ae) from Kd.V_mk cQ cx)
  clear hva_ hvn_ hvc_ cx cQ dU eL
  have fo := am dx
  have fl := am dB
  clear dx dB
  replace d8 := eq_true d8
  replace ec := eq_true ec
  iterate 4 (try go_wp2_with (first | ((with_reducible refine gate_builtin (b := .append) (xs := #[.tmp 85, .tmp 90]) rfl ?_); at_builtin; refine Kd.N_append (Kd.slice 3 (Kd.int .i64)) (w0 := w) w.heap.size rfl (.tmp 85) (.tmp 90) 30 39 (.slice none 0 0) 24 rfl Try.underlying30 info39 rfl (by decide) (by omega) u9 b3 (rd_L11 af ae) [.slice eq (rd_L11 af ae).length ew] (fun k_ => (P0_ k_ ∨ w.heap.size ≤ k_) ∧ some k_ ≠ (.slice dJ aa.length bh : Value).ownBlock ∧ some k_ ≠ (.slice (some co) af.length dE : Value).ownBlock) (fun k_ => ((fun k_ => (P0_ k_ ∨ w.heap.size ≤ k_) ∧ some k_ ≠ (.slice dJ aa.length bh : Value).ownBlock ∧ some k_ ≠ (.slice (some co) af.length dE : Value).ownBlock)) k_ ∧ some k_ ≠ (u9 : Value).ownBlock) rfl rfl ?aP (fun _ hk => hk) ?aF ?aO ?aB ?aS ?aL ?_; (case aP => first | exact (Kd.FK_slice_mk (Kd.V_reads' (Kd.V_mono (ok' := (fun k_ => ((fun k_ => (P0_ k_ ∨ w.heap.size ≤ k_) ∧ some k_ ≠ (.slice dJ aa.length bh : Value).ownBlock ∧ some k_ ≠ (.slice (some co) af.length dE : Value).ownBlock)) k_ ∧ some k_ ≠ (u9 : Value).ownBlock)) (b4.1) (fun k_ hk => ⟨⟨hk.1.1, ⟨hk.1.2.1, hk.2⟩⟩, hk.1.2.2⟩))).2.1 (Kd.V_F (Kd.V_mono (ok' := (fun k_ => ((fun k_ => (P0_ k_ ∨ w.heap.size ≤ k_) ∧ some k_ ≠ (.slice dJ aa.length bh : Value).ownBlock ∧ some k_ ≠ (.slice (some co) af.length dE : Value).ownBlock)) k_ ∧ some k_ ≠ (u9 : Value).ownBlock)) (b4.1) (fun k_ hk => ⟨⟨hk.1.1, ⟨hk.1.2.1, hk.2⟩⟩, hk.1.2.2⟩)))) | exact (Kd.FK_slice_mk (Kd.V_reads' (Kd.V_mono (ok' := (fun k_ => ((fun k_ => (P0_ k_ ∨ w.heap.size ≤ k_) ∧ some k_ ≠ (.slice dJ aa.length bh : Value).ownBlock ∧ some k_ ≠ (.slice (some co) af.length dE : Value).ownBlock)) k_ ∧ some k_ ≠ (u9 : Value).ownBlock)) (b4.1) (fun k_ hk => ⟨⟨hk.1.1, ⟨hk.1.2.1, hk.2⟩⟩, hk.1.2.2⟩))).2.1 (Kd.V_F (Kd.V_mono (ok' := (fun k_ => ((fun k_ => (P0_ k_ ∨ w.heap.size ≤ k_) ∧ some k_ ≠ (.slice dJ aa.length bh : Value).ownBlock ∧ some k_ ≠ (.slice (some co) af.length dE : Value).ownBlock)) k_ ∧ some k_ ≠ (u9 : Value).ownBlock)) (Kd.V_drewN b4.1 _) (fun k_ hk => ⟨⟨hk.1.1, ⟨hk.1.2.1, hk.2⟩⟩, hk.1.2.2⟩))))); (case aB => exact pbl); (case aF => exact (fun k_ hk => ⟨(.inr (Nat.le_trans (below_size pbl) hk)), Kd.fresh' (Kd.N_lt (pkn ab.1)) k_ hk, Kd.fresh' (Kd.N_lt (pkn ag.1)) k_ hk⟩)); (case aO => exact (pkn bg.1)); (case aS => exact (below_size pbl)); (case aL => have := eW.1; omega); intro gx gG ho hb hg hat; rw [← e5.1] at ho; have eT := am ho; replace ab := am (Kd.N_afterv (ok := (fun k_ => (P0_ k_ ∨ w.heap.size ≤ k_) ∧ some k_ ≠ (.slice (some co) af.length dE : Value).ownBlock)) (by (with_reducible repeat (first | apply Kd.N_alloc | apply Kd.N_drewN | apply Kd.N_drew)); exact Kd.N_mono ab.1 (fun _ hk => ⟨⟨hk.1, hk.2.1⟩, hk.2.2⟩)) hg hat); replace ag := am (Kd.N_afterv (ok := (fun k_ => (P0_ k_ ∨ w.heap.size ≤ k_) ∧ some k_ ≠ (.slice dJ aa.length bh : Value).ownBlock)) (by (with_reducible repeat (first | apply Kd.N_alloc | apply Kd.N_drewN | apply Kd.N_drew)); exact Kd.N_mono ag.1 (fun _ hk => ⟨⟨hk.1, hk.2.1⟩, hk.2.2⟩)) hg hat); replace b4 := am (Kd.V_afterv (ok := (fun k_ => (P0_ k_ ∨ w.heap.size ≤ k_) ∧ some k_ ≠ (.slice dJ aa.length bh : Value).ownBlock ∧ some k_ ≠ (.slice (some co) af.length dE : Value).ownBlock)) (by (with_reducible repeat (first | apply Kd.V_alloc | apply Kd.V_drewN | apply Kd.V_drew)); exact Kd.V_mono b4.1 (fun _ hk => ⟨⟨hk.1.1, ⟨hk.1.2.1, hk.2⟩⟩, hk.1.2.2⟩)) hg hat); replace HB := am hb; clear bg; clear ho hb hg hat)); try go_quiet (fail))
  go_roundg k3
  case measure => have := ci.1; have := cj.1; have := d1.1; omega
  case rel => exact ⟨(fh), (true), (wrap64 (ae + 1)), prs, prs, H', ⟨by have := ci.1; have := cj.1; have := d1.1; omega⟩, ⟨by (with_reducible repeat (first | apply Kd.N_alloc | apply Kd.N_drewN | apply Kd.N_drew)); exact Kd.N_mono ab.1 (fun _ hk => ⟨hk.1.1, ⟨hk.1.2, hk.2⟩⟩)⟩, ⟨by (with_reducible repeat (first | apply Kd.N_alloc | apply Kd.N_drewN | apply Kd.N_drew)); exact Kd.N_mono ag.1 (fun _ hk => ⟨hk.1.1, ⟨hk.1.2, hk.2⟩⟩)⟩, ⟨pkn eT.1⟩, ⟨pbg⟩⟩
 rw [if_neg Bool.false_ne_true] at H
 replace H := ifp H
 obtain ⟨fW, H⟩ := H
 have fX := decide_eq_true fW
 clear fW
 replace H := ifp H
 obtain ⟨fY, H⟩ := H
 have fZ := decide_eq_true fY
 clear fY
 replace H := ifp H
 obtain ⟨f5, H⟩ := H
 have f6 := decide_eq_true f5
 clear f5
 replace H := bnd H
 obtain ⟨eP, fk, H⟩ := H
 (try dsimp only at H)
 cases eP
 ·rw [if_neg Bool.false_ne_true] at H
  replace H := ifp H
  obtain ⟨f9, H⟩ := H
  have eZ := am f9
  clear f9
  obtain ⟨fj, d0⟩ : ∃ y_ : List (List Int), y_ = (b3 ++ [rd_L11 af ae]) := ⟨_, rfl⟩
  replace H : (r05_Maximal.l2 k3 aa af ac fj false (wrap64 (ae + 1))) = some r := hrp d0 H
  have e8 := am d0
  clear d0
  have H' := am H
  clear H
  obtain ⟨gm, cS, fI⟩ := Kd.N_slice ag.1
  subst fI
  have cz : 0 ≤ (ac : Int) := dq
  have cD : ac < (aa.length : Int) := dq
  obtain ⟨ar, er, ex, eB, bY, bU, bQ⟩ := at_L11 (Kd.N_reads' ab.1).2.2 ac cz cD
  cases eB
  obtain ⟨fc, dn, dj, cd⟩ := Kd.N_get ab.1 [] ac cz (by first | exact cD | exact dq | (have e_ := (Kd.N_reads' ab.1).1; omega))
  obtain ⟨ee, ei, rfl, bz, bs⟩ := Kd.FK_slice_open dj
  have a5 := cd 0 _ rfl
  rw [Nat.add_zero, show ((Kd.slice 3 (Kd.int .i64))).sz = 1 from rfl, Nat.mul_one] at a5
  replace a5 := Option.some.inj (a5.symm.trans bY)
  injection a5 with hva_ hvn_ hvc_
  rw [hva_] at bs
  rw [hvc_] at bz
  have aN := am (show Kd.V (Kd.int .i64) 3 _ w.heap.size _ _ (rd_L11 aa ac) from Kd.V_mk bz bs)
  clear hva_ hvn_ hvc_ bs bz cd dn
  have aD := am bQ
  have bN := am bU
  clear bQ bU
  replace cz := eq_true cz
  replace cD := eq_true cD
  have cA : 0 ≤ (ae : Int) := dq
  have cE : ae < (af.length : Int) := dq
  obtain ⟨aq, dH, dM, eC, bZ, bV, bR⟩ := at_L11 (Kd.N_reads' ag.1).2.2 ae cA cE
  cases eC
  obtain ⟨fd, dp, dk, ce⟩ := Kd.N_get ag.1 [] ae cA (by first | exact cE | exact dq | (have e_ := (Kd.N_reads' ag.1).1; omega))
  obtain ⟨ef, ej, rfl, bA, bu⟩ := Kd.FK_slice_open dk
  have a6 := ce 0 _ rfl
  rw [Nat.add_zero, show ((Kd.slice 3 (Kd.int .i64))).sz = 1 from rfl, Nat.mul_one] at a6
  replace a6 := Option.some.inj (a6.symm.trans bZ)
  injection a6 with hva_ hvn_ hvc_
  rw [hva_] at bu
  rw [hvc_] at bA
  have aQ := am (show Kd.V (Kd.int .i64) 3 _ w.heap.size _ _ (rd_L11 af ae) from Kd.V_mk bA bu)
  clear hva_ hvn_ hvc_ bu bA ce dp
  have aE := am bR
  have bO := am bV
  clear bR bV
  replace cA := eq_true cA
  replace cE := eq_true cE
  have cC : 0 ≤ (ae : Int) := dq
  have cG : ae < (af.length : Int) := dq
  obtain ⟨dL, eu, eA, eE, b1, bX, bT⟩ := at_L11 (Kd.N_reads' ag.1).2.2 ae cC cG
  obtain rfl : aq = dL := (by injection eE)
  obtain ⟨ff, dt, dm, cg⟩ := Kd.N_get ag.1 [] ae cC (by first | exact cG | exact dq | (have e_ := (Kd.N_reads' ag.1).1; omega))
  obtain ⟨eh, el, rfl, bC, bw⟩ := Kd.FK_slice_open dm
  have a8 := cg 0 _ rfl
  rw [Nat.add_zero, show ((Kd.slice 3 (Kd.int .i64))).sz = 1 from rfl, Nat.mul_one] at a8
  replace a8 := Option.some.inj (a8.symm.trans b1)
  injection a8 with hva_ hvn_ hvc_
  rw [hva_] at bw
  rw [hvc_] at bC
  have bP := am (show Kd.V (Kd.int .i64) 3 _ w.heap.size _ _ (rd_L11 af ae) from Kd.V_mk bC bw)
  clear hva_ hvn_ hvc_ bw bC
  clear cg dt
  have d3 := am bT
  have d2 := am bX
  clear bT bX
  replace cC := eq_true cC
  replace cG := eq_true cG
  have ea_ := Option.some.inj (bZ.symm.trans b1)
  injection ea_ with ea_ en_ ec_
  subst ea_
  subst ec_
  clear en_
  iterate 4 (try go_wp2_with (first | (go_at_call 79; (with_reducible refine (r05_before.calls k3 _ _ (rd_L11 aa ac) _ _ (rd_L11 af ae) false _ ?side1 ?side2 ?side3 ?side4 fk.1).mono ?_); (case side1 => exact csd aD.1); (case side2 => exact bN.1); (case side3 => exact csd aE.1); (case side4 => exact bO.1); rintro e w' ⟨rfl, ⟨nd, rfl⟩⟩; (try first | exact dw1 | exact dw2)) | ((with_reducible refine gate_builtin (b := .append) (xs := #[.tmp 85, .tmp 90]) rfl ?_); at_builtin; refine Kd.N_append (Kd.slice 3 (Kd.int .i64)) (w0 := w) w.heap.size rfl (.tmp 85) (.tmp 90) 30 39 (.slice none 0 0) 24 rfl Try.underlying30 info39 rfl (by decide) (by omega) u9 b3 (rd_L11 af ae) [.slice dH (rd_L11 af ae).length dM] (fun k_ => (P0_ k_ ∨ w.heap.size ≤ k_) ∧ some k_ ≠ (.slice (some ar) aa.length bh : Value).ownBlock ∧ some k_ ≠ (.slice (some aq) af.length cS : Value).ownBlock) (fun k_ => ((fun k_ => (P0_ k_ ∨ w.heap.size ≤ k_) ∧ some k_ ≠ (.slice (some ar) aa.length bh : Value).ownBlock ∧ some k_ ≠ (.slice (some aq) af.length cS : Value).ownBlock)) k_ ∧ some k_ ≠ (u9 : Value).ownBlock) rfl rfl ?aP (fun _ hk => hk) ?aF ?aO ?aB ?aS ?aL ?_; (case aP => first | exact (Kd.FK_slice_mk (Kd.V_reads' (Kd.V_mono (ok' := (fun k_ => ((fun k_ => (P0_ k_ ∨ w.heap.size ≤ k_) ∧ some k_ ≠ (.slice (some ar) aa.length bh : Value).ownBlock ∧ some k_ ≠ (.slice (some aq) af.length cS : Value).ownBlock)) k_ ∧ some k_ ≠ (u9 : Value).ownBlock)) (bP.1) (fun k_ hk => ⟨⟨hk.1.1, ⟨hk.1.2.1, hk.2⟩⟩, hk.1.2.2⟩))).2.1 (Kd.V_F (Kd.V_mono (ok' := (fun k_ => ((fun k_ => (P0_ k_ ∨ w.heap.size ≤ k_) ∧ some k_ ≠ (.slice (some ar) aa.length bh : Value).ownBlock ∧ some k_ ≠ (.slice (some aq) af.length cS : Value).ownBlock)) k_ ∧ some k_ ≠ (u9 : Value).ownBlock)) (bP.1) (fun k_ hk => ⟨⟨hk.1.1, ⟨hk.1.2.1, hk.2⟩⟩, hk.1.2.2⟩)))) | exact (Kd.FK_slice_mk (Kd.V_reads' (Kd.V_mono (ok' := (fun k_ => ((fun k_ => (P0_ k_ ∨ w.heap.size ≤ k_) ∧ some k_ ≠ (.slice (some ar) aa.length bh : Value).ownBlock ∧ some k_ ≠ (.slice (some aq) af.length cS : Value).ownBlock)) k_ ∧ some k_ ≠ (u9 : Value).ownBlock)) (bP.1) (fun k_ hk => ⟨⟨hk.1.1, ⟨hk.1.2.1, hk.2⟩⟩, hk.1.2.2⟩))).2.1 (Kd.V_F (Kd.V_mono (ok' := (fun k_ => ((fun k_ => (P0_ k_ ∨ w.heap.size ≤ k_) ∧ some k_ ≠ (.slice (some ar) aa.length bh : Value).ownBlock ∧ some k_ ≠ (.slice (some aq) af.length cS : Value).ownBlock)) k_ ∧ some k_ ≠ (u9 : Value).ownBlock)) (Kd.V_drewN bP.1 _) (fun k_ hk => ⟨⟨hk.1.1, ⟨hk.1.2.1, hk.2⟩⟩, hk.1.2.2⟩))))); (case aB => exact pbl); (case aF => exact (fun k_ hk => ⟨(.inr (Nat.le_trans (below_size pbl) hk)), Kd.fresh' (Kd.N_lt (pkn ab.1)) k_ hk, Kd.fresh' (Kd.N_lt (pkn ag.1)) k_ hk⟩)); (case aO => exact (pkn bg.1)); (case aS => exact (below_size pbl)); (case aL => have := eZ.1; omega); intro gz gJ ho hb hg hat; rw [← e8.1] at ho; have eV := am ho; replace ab := am (Kd.N_afterv (ok := (fun k_ => (P0_ k_ ∨ w.heap.size ≤ k_) ∧ some k_ ≠ (.slice (some aq) af.length cS : Value).ownBlock)) (by (with_reducible repeat (first | apply Kd.N_alloc | apply Kd.N_drewN | apply Kd.N_drew)); exact Kd.N_mono ab.1 (fun _ hk => ⟨⟨hk.1, hk.2.1⟩, hk.2.2⟩)) hg hat); replace ag := am (Kd.N_afterv (ok := (fun k_ => (P0_ k_ ∨ w.heap.size ≤ k_) ∧ some k_ ≠ (.slice (some ar) aa.length bh : Value).ownBlock)) (by (with_reducible repeat (first | apply Kd.N_alloc | apply Kd.N_drewN | apply Kd.N_drew)); exact Kd.N_mono ag.1 (fun _ hk => ⟨⟨hk.1, hk.2.1⟩, hk.2.2⟩)) hg hat); replace aN := am (Kd.V_afterv (ok := (fun k_ => (P0_ k_ ∨ w.heap.size ≤ k_) ∧ some k_ ≠ (.slice (some ar) aa.length bh : Value).ownBlock ∧ some k_ ≠ (.slice (some aq) af.length cS : Value).ownBlock)) (by (with_reducible repeat (first | apply Kd.V_alloc | apply Kd.V_drewN | apply Kd.V_drew)); exact Kd.V_mono aN.1 (fun _ hk => ⟨⟨hk.1.1, ⟨hk.2, hk.1.2.1⟩⟩, hk.1.2.2⟩)) hg hat); replace aQ := am (Kd.V_afterv (ok := (fun k_ => (P0_ k_ ∨ w.heap.size ≤ k_) ∧ some k_ ≠ (.slice (some ar) aa.length bh : Value).ownBlock ∧ some k_ ≠ (.slice (some aq) af.length cS : Value).ownBlock)) (by (with_reducible repeat (first | apply Kd.V_alloc | apply Kd.V_drewN | apply Kd.V_drew)); exact Kd.V_mono aQ.1 (fun _ hk => ⟨⟨hk.1.1, ⟨hk.1.2.1, hk.2⟩⟩, hk.1.2.2⟩)) hg hat); replace bP := am (Kd.V_afterv (ok := (fun k_ => (P0_ k_ ∨ w.heap.size ≤ k_) ∧ some k_ ≠ (.slice (some ar) aa.length bh : Value).ownBlock ∧ some k_ ≠ (.slice (some aq) af.length cS : Value).ownBlock)) (by (with_reducible repeat (first | apply Kd.V_alloc | apply Kd.V_drewN | apply Kd.V_drew)); exact Kd.V_mono bP.1 (fun _ hk => ⟨⟨hk.1.1, ⟨hk.1.2.1, hk.2⟩⟩, hk.1.2.2⟩)) hg hat); replace HB := am hb; clear bg; clear ho hb hg hat)); try go_quiet (first | (go_at_call 79; (with_reducible refine (r05_before.calls k3 _ _ (rd_L11 aa ac) _ _ (rd_L11 af ae) false _ ?side1 ?side2 ?side3 ?side4 fk.1).mono ?_); (case side1 => exact csd aD.1); (case side2 => exact bN.1); (case side3 => exact csd aE.1); (case side4 => exact bO.1); rintro e w' ⟨rfl, ⟨nd, rfl⟩⟩; (try first | exact dw1 | exact dw2))))
  go_roundg k3
  case measure => have := ci.1; have := cj.1; have := d1.1; omega
  case rel => exact ⟨(fj), (false), (wrap64 (ae + 1)), prs, prs, H', ⟨by have := ci.1; have := cj.1; have := d1.1; omega⟩, ⟨by (with_reducible repeat (first | apply Kd.N_alloc | apply Kd.N_drewN | apply Kd.N_drew)); exact Kd.N_mono ab.1 (fun _ hk => ⟨hk.1.1, ⟨hk.1.2, hk.2⟩⟩)⟩, ⟨by (with_reducible repeat (first | apply Kd.N_alloc | apply Kd.N_drewN | apply Kd.N_drew)); exact Kd.N_mono ag.1 (fun _ hk => ⟨hk.1.1, ⟨hk.1.2, hk.2⟩⟩)⟩, ⟨pkn eV.1⟩, ⟨pbg⟩⟩
 rw [if_pos rfl] at H
 replace H := bnd H
 obtain ⟨b2, fR, H⟩ := H
 (try dsimp only at H)
 replace H := ifp H
 obtain ⟨f7, H⟩ := H
 have eX := am f7
 clear f7
 obtain ⟨du, dY⟩ : ∃ y_ : List (List Int), y_ = (b3 ++ [b2]) := ⟨_, rfl⟩
 replace H : (if du.length < 5864062014805 then (r05_Maximal.l2 k3 aa af ac (du ++ [rd_L11 af ae]) true (wrap64 (ae + 1))) else (none)) = some r := hrp dY H
 have e6 := am dY
 clear dY
 replace H := ifp H
 obtain ⟨f8, H⟩ := H
 have eY := am f8
 clear f8
 obtain ⟨fi, dZ⟩ : ∃ y_ : List (List Int), y_ = (du ++ [rd_L11 af ae]) := ⟨_, rfl⟩
 replace H : (r05_Maximal.l2 k3 aa af ac fi true (wrap64 (ae + 1))) = some r := hrp dZ H
 have e7 := am dZ
 clear dZ
 have H' := am H
 clear H
 obtain ⟨gl, bD, fH⟩ := Kd.N_slice ag.1
 subst fH
 have cz : 0 ≤ (ac : Int) := dq
 have cD : ac < (aa.length : Int) := dq
 obtain ⟨ar, er, ex, eB, bY, bU, bQ⟩ := at_L11 (Kd.N_reads' ab.1).2.2 ac cz cD
 cases eB
 obtain ⟨fc, dn, dj, cd⟩ := Kd.N_get ab.1 [] ac cz (by first | exact cD | exact dq | (have e_ := (Kd.N_reads' ab.1).1; omega))
 obtain ⟨ee, ei, rfl, bz, bs⟩ := Kd.FK_slice_open dj
 have a5 := cd 0 _ rfl
 rw [Nat.add_zero, show ((Kd.slice 3 (Kd.int .i64))).sz = 1 from rfl, Nat.mul_one] at a5
 replace a5 := Option.some.inj (a5.symm.trans bY)
 injection a5 with hva_ hvn_ hvc_
 rw [hva_] at bs
 rw [hvc_] at bz
 have aN := am (show Kd.V (Kd.int .i64) 3 _ w.heap.size _ _ (rd_L11 aa ac) from Kd.V_mk bz bs)
 clear hva_ hvn_ hvc_ bs bz cd dn
 have aD := am bQ
 have bN := am bU
 clear bQ bU
 replace cz := eq_true cz
 replace cD := eq_true cD
 have cA : 0 ≤ (ae : Int) := dq
 have cE : ae < (af.length : Int) := dq
 obtain ⟨aq, dH, dM, eC, bZ, bV, bR⟩ := at_L11 (Kd.N_reads' ag.1).2.2 ae cA cE
 cases eC
 obtain ⟨fd, dp, dk, ce⟩ := Kd.N_get ag.1 [] ae cA (by first | exact cE | exact dq | (have e_ := (Kd.N_reads' ag.1).1; omega))
 obtain ⟨ef, ej, rfl, bA, bu⟩ := Kd.FK_slice_open dk
 have a6 := ce 0 _ rfl
 rw [Nat.add_zero, show ((Kd.slice 3 (Kd.int .i64))).sz = 1 from rfl, Nat.mul_one] at a6
 replace a6 := Option.some.inj (a6.symm.trans bZ)
 injection a6 with hva_ hvn_ hvc_
 rw [hva_] at bu
 rw [hvc_] at bA
 have aQ := am (show Kd.V (Kd.int .i64) 3 _ w.heap.size _ _ (rd_L11 af ae) from Kd.V_mk bA bu)
 clear hva_ hvn_ hvc_ bu bA ce dp
 have aE := am bR
 have bO := am bV
 clear bR bV
 replace cA := eq_true cA
 replace cE := eq_true cE
 have cB : 0 ≤ (ac : Int) := dq
 have cF : ac < (aa.length : Int) := dq
 obtain ⟨dK, es, ey, eD, b0, bW, bS⟩ := at_L11 (Kd.N_reads' ab.1).2.2 ac cB cF
 obtain rfl : ar = dK := (by injection eD)
 obtain ⟨fe, dr, dl, cf⟩ := Kd.N_get ab.1 [] ac cB (by first | exact cF | exact dq | (have e_ := (Kd.N_reads' ab.1).1; omega))
 obtain ⟨eg, ek, rfl, bB, bv⟩ := Kd.FK_slice_open dl
 have a7 := cf 0 _ rfl
 rw [Nat.add_zero, show ((Kd.slice 3 (Kd.int .i64))).sz = 1 from rfl, Nat.mul_one] at a7
 replace a7 := Option.some.inj (a7.symm.trans b0)
 injection a7 with hva_ hvn_ hvc_
 rw [hva_] at bv
 rw [hvc_] at bB
 have a3 := am (show Kd.V (Kd.int .i64) 3 _ w.heap.size _ _ (rd_L11 aa ac) from Kd.V_mk bB bv)
 clear hva_ hvn_ hvc_ bv bB
 clear cf dr
 have a4 := am bS
 have cp := am bW
 clear bS bW
 replace cB := eq_true cB
 replace cF := eq_true cF
 have ea_ := Option.some.inj (bY.symm.trans b0)
 injection ea_ with ea_ en_ ec_
 subst ea_
 subst ec_
 clear en_
 iterate 4 (try go_wp2_with (first | (go_at_call 79; (with_reducible refine (r05_before.calls k3 _ _ (rd_L11 aa ac) _ _ (rd_L11 af ae) true _ ?side1 ?side2 ?side3 ?side4 fk.1).mono ?_); (case side1 => exact csd aD.1); (case side2 => exact bN.1); (case side3 => exact csd aE.1); (case side4 => exact bO.1); rintro e w' ⟨rfl, ⟨nd, rfl⟩⟩; (try first | exact dw1 | exact dw2)) | (go_at_call 43; (with_reducible refine (r04_Copy.calls k3 _ _ (rd_L11 aa ac) b2 _ ?side1 ?side2 fR.1).mono ?_); (case side1 => exact csd a4.1); (case side2 => exact cp.1); rintro e gA ⟨fQ, rfl, bx, hb⟩; have cm := am (Kd.R_lower (Kd.R_newM (M := fun k_ => (w.heap.size ≤ k_)) bx (below_size pbl) (fun k_ h_ => h_)) (below_size pbl)); replace ab := am (Kd.N_elder' (pkn ab.1) (Kd.R_base bx) hb); replace ag := am (Kd.N_elder' (pkn ag.1) (Kd.R_base bx) hb); replace bg := am (Kd.N_elder' (pkn bg.1) (Kd.R_base bx) hb); replace aN := am (Kd.V_elder' (pkv aN.1) (Kd.R_base bx) hb); replace aQ := am (Kd.V_elder' (pkv aQ.1) (Kd.R_base bx) hb); replace a3 := am (Kd.V_elder' (pkv a3.1) (Kd.R_base bx) hb); replace aD := cbb aD hb; replace aE := cbb aE hb; replace a4 := cbb a4 hb; replace HB := bsl hb; (try clear hb); (try clear bx); obtain ⟨cY, de, eF⟩ := Kd.R_slice cm.1; subst eF) | ((with_reducible refine gate_builtin (b := .append) (xs := #[.tmp 77, .tmp 83]) rfl ?_); at_builtin; refine Kd.N_append (Kd.slice 3 (Kd.int .i64)) (w0 := w) w.heap.size rfl (.tmp 77) (.tmp 83) 30 39 (.slice none 0 0) 24 rfl Try.underlying30 info39 rfl (by decide) (by omega) u9 b3 b2 [.slice cY b2.length de] (fun k_ => (P0_ k_ ∨ w.heap.size ≤ k_) ∧ some k_ ≠ (.slice (some ar) aa.length bh : Value).ownBlock ∧ some k_ ≠ (.slice (some aq) af.length bD : Value).ownBlock) (fun k_ => ((fun k_ => (P0_ k_ ∨ w.heap.size ≤ k_) ∧ some k_ ≠ (.slice (some ar) aa.length bh : Value).ownBlock ∧ some k_ ≠ (.slice (some aq) af.length bD : Value).ownBlock)) k_ ∧ some k_ ≠ (u9 : Value).ownBlock) rfl rfl ?aP (fun _ hk => hk) ?aF ?aO ?aB ?aS ?aL ?_; (case aP => exact (Kd.FK_slice_mk (Kd.R_reads' (Kd.R_mono (ok' := (fun k_ => ((fun k_ => (P0_ k_ ∨ w.heap.size ≤ k_) ∧ some k_ ≠ (.slice (some ar) aa.length bh : Value).ownBlock ∧ some k_ ≠ (.slice (some aq) af.length bD : Value).ownBlock)) k_ ∧ some k_ ≠ (u9 : Value).ownBlock)) (Kd.R_apart' (Kd.R_apart' (Kd.R_apart' (cm.1) (Kd.N_typed ab.1) (by decide)) (Kd.N_typed ag.1) (by decide)) (Kd.N_typed bg.1) (by decide)) (fun k_ hk => ⟨⟨(.inr (hk.1.1.1.1)), ⟨hk.1.1.2, hk.1.2⟩⟩, hk.2⟩))).2.1 (Kd.R_F (Kd.R_mono (ok' := (fun k_ => ((fun k_ => (P0_ k_ ∨ w.heap.size ≤ k_) ∧ some k_ ≠ (.slice (some ar) aa.length bh : Value).ownBlock ∧ some k_ ≠ (.slice (some aq) af.length bD : Value).ownBlock)) k_ ∧ some k_ ≠ (u9 : Value).ownBlock)) (Kd.R_apart' (Kd.R_apart' (Kd.R_apart' (cm.1) (Kd.N_typed ab.1) (by decide)) (Kd.N_typed ag.1) (by decide)) (Kd.N_typed bg.1) (by decide)) (fun k_ hk => ⟨⟨(.inr (hk.1.1.1.1)), ⟨hk.1.1.2, hk.1.2⟩⟩, hk.2⟩))))); (case aB => exact pbl); (case aF => exact (fun k_ hk => ⟨(.inr (Nat.le_trans (below_size pbl) hk)), Kd.fresh' (Kd.N_lt (pkn ab.1)) k_ hk, Kd.fresh' (Kd.N_lt (pkn ag.1)) k_ hk⟩)); (case aO => exact (by (with_reducible repeat (first | apply Kd.N_alloc | apply Kd.N_drewN | apply Kd.N_drew)); exact Kd.N_mono bg.1 (fun _ hk => ⟨hk.1.1, ⟨hk.1.2.1, hk.1.2.2⟩⟩))); (case aS => exact (below_size pbl)); (case aL => have := eX.1; omega); intro em gH ho hb hg hat; rw [← e6.1] at ho; have eo := am ho; replace ab := am (Kd.N_afterv (ok := (fun k_ => (P0_ k_ ∨ w.heap.size ≤ k_) ∧ some k_ ≠ (.slice (some aq) af.length bD : Value).ownBlock ∧ some k_ ≠ (.slice cY b2.length de : Value).ownBlock)) (by (with_reducible repeat (first | apply Kd.N_alloc | apply Kd.N_drewN | apply Kd.N_drew)); exact Kd.N_mono ab.1 (fun _ hk => ⟨⟨hk.1.1, ⟨hk.1.2.1, hk.2⟩⟩, hk.1.2.2⟩)) hg hat); replace ag := am (Kd.N_afterv (ok := (fun k_ => (P0_ k_ ∨ w.heap.size ≤ k_) ∧ some k_ ≠ (.slice (some ar) aa.length bh : Value).ownBlock ∧ some k_ ≠ (.slice cY b2.length de : Value).ownBlock)) (by (with_reducible repeat (first | apply Kd.N_alloc | apply Kd.N_drewN | apply Kd.N_drew)); exact Kd.N_mono ag.1 (fun _ hk => ⟨⟨hk.1.1, ⟨hk.1.2.1, hk.2⟩⟩, hk.1.2.2⟩)) hg hat); replace aN := am (Kd.V_afterv (ok := (fun k_ => (P0_ k_ ∨ w.heap.size ≤ k_) ∧ some k_ ≠ (.slice (some ar) aa.length bh : Value).ownBlock ∧ some k_ ≠ (.slice (some aq) af.length bD : Value).ownBlock ∧ some k_ ≠ (.slice cY b2.length de : Value).ownBlock)) (by (with_reducible repeat (first | apply Kd.V_alloc | apply Kd.V_drewN | apply Kd.V_drew)); exact Kd.V_mono aN.1 (fun _ hk => ⟨⟨hk.1.1.1, ⟨hk.1.2, ⟨hk.1.1.2.1, hk.2⟩⟩⟩, hk.1.1.2.2⟩)) hg hat); replace aQ := am (Kd.V_afterv (ok := (fun k_ => (P0_ k_ ∨ w.heap.size ≤ k_) ∧ some k_ ≠ (.slice (some ar) aa.length bh : Value).ownBlock ∧ some k_ ≠ (.slice (some aq) af.length bD : Value).ownBlock ∧ some k_ ≠ (.slice cY b2.length de : Value).ownBlock)) (by (with_reducible repeat (first | apply Kd.V_alloc | apply Kd.V_drewN | apply Kd.V_drew)); exact Kd.V_mono aQ.1 (fun _ hk => ⟨⟨hk.1.1.1, ⟨hk.1.1.2.1, ⟨hk.1.2, hk.2⟩⟩⟩, hk.1.1.2.2⟩)) hg hat); replace a3 := am (Kd.V_afterv (ok := (fun k_ => (P0_ k_ ∨ w.heap.size ≤ k_) ∧ some k_ ≠ (.slice (some ar) aa.length bh : Value).ownBlock ∧ some k_ ≠ (.slice (some aq) af.length bD : Value).ownBlock ∧ some k_ ≠ (.slice cY b2.length de : Value).ownBlock)) (by (with_reducible repeat (first | apply Kd.V_alloc | apply Kd.V_drewN | apply Kd.V_drew)); exact Kd.V_mono a3.1 (fun _ hk => ⟨⟨hk.1.1.1, ⟨hk.1.2, ⟨hk.1.1.2.1, hk.2⟩⟩⟩, hk.1.1.2.2⟩)) hg hat); replace HB := am hb; (try clear bg cm); clear ho hb hg hat; have d9 : 0 ≤ (ae : Int) := dq; have ed : ae < (af.length : Int) := dq; obtain ⟨e9, et, ez, fF, d6, dC, dy⟩ := at_L11 (Kd.N_reads' ag.1).2.2 ae d9 ed; obtain rfl : aq = e9 := (by injection fF); obtain ⟨gi, eM, eJ, dV⟩ := Kd.N_get ag.1 [] ae d9 (by first | exact ed | exact dq | (have e_ := (Kd.N_reads' ag.1).1; omega)); obtain ⟨fu, fx, rfl, cR, cy⟩ := Kd.FK_slice_open eJ; have b8 := dV 0 _ rfl; rw [Nat.add_zero, show ((Kd.slice 3 (Kd.int .i64))).sz = 1 from rfl, Nat.mul_one] at b8; replace b8 := Option.some.inj (b8.symm.trans d6); injection b8 with hva_ hvn_ hvc_; rw [hva_] at cy; rw [hvc_] at cR; have b5 := am (show Kd.V (Kd.int .i64) 3 _ w.heap.size _ _ (rd_L11 af ae) from Kd.V_mk cR cy); clear hva_ hvn_ hvc_ cy cR; clear dV eM; have fp := am dy; have fm := am dC; clear dy dC; replace d9 := eq_true d9; replace ed := eq_true ed) | ((with_reducible refine gate_builtin (b := .append) (xs := #[.tmp 85, .tmp 90]) rfl ?_); at_builtin; refine Kd.N_append (Kd.slice 3 (Kd.int .i64)) (w0 := w) w.heap.size rfl (.tmp 85) (.tmp 90) 30 39 (.slice none 0 0) 24 rfl Try.underlying30 info39 rfl (by decide) (by omega) em du (rd_L11 af ae) [.slice et (rd_L11 af ae).length ez] (fun k_ => (P0_ k_ ∨ w.heap.size ≤ k_) ∧ some k_ ≠ (.slice (some ar) aa.length bh : Value).ownBlock ∧ some k_ ≠ (.slice (some aq) af.length bD : Value).ownBlock) (fun k_ => ((fun k_ => (P0_ k_ ∨ w.heap.size ≤ k_) ∧ some k_ ≠ (.slice (some ar) aa.length bh : Value).ownBlock ∧ some k_ ≠ (.slice (some aq) af.length bD : Value).ownBlock)) k_ ∧ some k_ ≠ (em : Value).ownBlock) rfl rfl ?aP (fun _ hk => hk) ?aF ?aO ?aB ?aS ?aL ?_; (case aP => first | exact (Kd.FK_slice_mk (Kd.V_reads' (Kd.V_mono (ok' := (fun k_ => ((fun k_ => (P0_ k_ ∨ w.heap.size ≤ k_) ∧ some k_ ≠ (.slice (some ar) aa.length bh : Value).ownBlock ∧ some k_ ≠ (.slice (some aq) af.length bD : Value).ownBlock)) k_ ∧ some k_ ≠ (em : Value).ownBlock)) (b5.1) (fun k_ hk => ⟨⟨hk.1.1.1, ⟨hk.1.1.2.1, hk.2⟩⟩, hk.1.2⟩))).2.1 (Kd.V_F (Kd.V_mono (ok' := (fun k_ => ((fun k_ => (P0_ k_ ∨ w.heap.size ≤ k_) ∧ some k_ ≠ (.slice (some ar) aa.length bh : Value).ownBlock ∧ some k_ ≠ (.slice (some aq) af.length bD : Value).ownBlock)) k_ ∧ some k_ ≠ (em : Value).ownBlock)) (b5.1) (fun k_ hk => ⟨⟨hk.1.1.1, ⟨hk.1.1.2.1, hk.2⟩⟩, hk.1.2⟩)))) | exact (Kd.FK_slice_mk (Kd.V_reads' (Kd.V_mono (ok' := (fun k_ => ((fun k_ => (P0_ k_ ∨ w.heap.size ≤ k_) ∧ some k_ ≠ (.slice (some ar) aa.length bh : Value).ownBlock ∧ some k_ ≠ (.slice (some aq) af.length bD : Value).ownBlock)) k_ ∧ some k_ ≠ (em : Value).ownBlock)) (b5.1) (fun k_ hk => ⟨⟨hk.1.1.1, ⟨hk.1.1.2.1, hk.2⟩⟩, hk.1.2⟩))).2.1 (Kd.V_F (Kd.V_mono (ok' := (fun k_ => ((fun k_ => (P0_ k_ ∨ w.heap.size ≤ k_) ∧ some k_ ≠ (.slice (some ar) aa.length bh : Value).ownBlock ∧ some k_ ≠ (.slice (some aq) af.length bD : Value).ownBlock)) k_ ∧ some k_ ≠ (em : Value).ownBlock)) (Kd.V_drewN b5.1 _) (fun k_ hk => ⟨⟨hk.1.1.1, ⟨hk.1.1.2.1, hk.2⟩⟩, hk.1.2⟩))))); (case aB => exact pbl); (case aF => exact (fun k_ hk => ⟨(.inr (Nat.le_trans (below_size pbl) hk)), Kd.fresh' (Kd.N_lt (pkn ab.1)) k_ hk, Kd.fresh' (Kd.N_lt (pkn ag.1)) k_ hk⟩)); (case aO => exact (pkn eo.1)); (case aS => exact (below_size pbl)); (case aL => have := eY.1; omega); intro gy gI ho hb hg hat; rw [← e7.1] at ho; have eU := am ho; replace ab := am (Kd.N_afterv (ok := (fun k_ => (P0_ k_ ∨ w.heap.size ≤ k_) ∧ some k_ ≠ (.slice (some aq) af.length bD : Value).ownBlock)) (by (with_reducible repeat (first | apply Kd.N_alloc | apply Kd.N_drewN | apply Kd.N_drew)); exact Kd.N_mono ab.1 (fun _ hk => ⟨⟨hk.1.1, hk.1.2.1⟩, hk.2⟩)) hg hat); replace ag := am (Kd.N_afterv (ok := (fun k_ => (P0_ k_ ∨ w.heap.size ≤ k_) ∧ some k_ ≠ (.slice (some ar) aa.length bh : Value).ownBlock)) (by (with_reducible repeat (first | apply Kd.N_alloc | apply Kd.N_drewN | apply Kd.N_drew)); exact Kd.N_mono ag.1 (fun _ hk => ⟨⟨hk.1.1, hk.1.2.1⟩, hk.2⟩)) hg hat); replace aN := am (Kd.V_afterv (ok := (fun k_ => (P0_ k_ ∨ w.heap.size ≤ k_) ∧ some k_ ≠ (.slice (some ar) aa.length bh : Value).ownBlock ∧ some k_ ≠ (.slice (some aq) af.length bD : Value).ownBlock)) (by (with_reducible repeat (first | apply Kd.V_alloc | apply Kd.V_drewN | apply Kd.V_drew)); exact Kd.V_mono aN.1 (fun _ hk => ⟨⟨hk.1.1, ⟨hk.1.2.1, hk.1.2.2.1⟩⟩, hk.2⟩)) hg hat); replace aQ := am (Kd.V_afterv (ok := (fun k_ => (P0_ k_ ∨ w.heap.size ≤ k_) ∧ some k_ ≠ (.slice (some ar) aa.length bh : Value).ownBlock ∧ some k_ ≠ (.slice (some aq) af.length bD : Value).ownBlock)) (by (with_reducible repeat (first | apply Kd.V_alloc | apply Kd.V_drewN | apply Kd.V_drew)); exact Kd.V_mono aQ.1 (fun _ hk => ⟨⟨hk.1.1, ⟨hk.1.2.1, hk.1.2.2.1⟩⟩, hk.2⟩)) hg hat); replace a3 := am (Kd.V_afterv (ok := (fun k_ => (P0_ k_ ∨ w.heap.size ≤ k_) ∧ some k_ ≠ (.slice (some ar) aa.length bh : Value).ownBlock ∧ some k_ ≠ (.slice (some aq) af.length bD : Value).ownBlock)) (by (with_reducible repeat (first | apply Kd.V_alloc | apply Kd.V_drewN | apply Kd.V_drew)); exact Kd.V_mono a3.1 (fun _ hk => ⟨⟨hk.1.1, ⟨hk.1.2.1, hk.1.2.2.1⟩⟩, hk.2⟩)) hg hat); replace b5 := am (Kd.V_afterv (ok := (fun k_ => (P0_ k_ ∨ w.heap.size ≤ k_) ∧ some k_ ≠ (.slice (some ar) aa.length bh : Value).ownBlock ∧ some k_ ≠ (.slice (some aq) af.length bD : Value).ownBlock)) (by (with_reducible repeat (first | apply Kd.V_alloc | apply Kd.V_drewN | apply Kd.V_drew)); exact Kd.V_mono b5.1 (fun _ hk => ⟨⟨hk.1.1.1, ⟨hk.1.1.2.1, hk.2⟩⟩, hk.1.2⟩)) hg hat); replace HB := am hb; clear eo; clear ho hb hg hat)); try go_quiet (first | (go_at_call 79; (with_reducible refine (r05_before.calls k3 _ _ (rd_L11 aa ac) _ _ (rd_L11 af ae) true _ ?side1 ?side2 ?side3 ?side4 fk.1).mono ?_); (case side1 => exact csd aD.1); (case side2 => exact bN.1); (case side3 => exact csd aE.1); (case side4 => exact bO.1); rintro e w' ⟨rfl, ⟨nd, rfl⟩⟩; (try first | exact dw1 | exact dw2)) | (go_at_call 43; (with_reducible refine (r04_Copy.calls k3 _ _ (rd_L11 aa ac) b2 _ ?side1 ?side2 fR.1).mono ?_); (case side1 => exact csd a4.1); (case side2 => exact cp.1); rintro e gA ⟨fQ, rfl, bx, hb⟩; have cm := am (Kd.R_lower (Kd.R_newM (M := fun k_ => (w.heap.size ≤ k_)) bx (below_size pbl) (fun k_ h_ => h_)) (below_size pbl)); replace ab := am (Kd.N_elder' (pkn ab.1) (Kd.R_base bx) hb); replace ag := am (Kd.N_elder' (pkn ag.1) (Kd.R_base bx) hb); replace bg := am (Kd.N_elder' (pkn bg.1) (Kd.R_base bx) hb); replace aN := am (Kd.V_elder' (pkv aN.1) (Kd.R_base bx) hb); replace aQ := am (Kd.V_elder' (pkv aQ.1) (Kd.R_base bx) hb); replace a3 := am (Kd.V_elder' (pkv a3.1) (Kd.R_base bx) hb); replace aD := cbb aD hb; replace aE := cbb aE hb; replace a4 := cbb a4 hb; replace HB := bsl hb; (try clear hb); (try clear bx); obtain ⟨cY, de, eF⟩ := Kd.R_slice cm.1; subst eF)))
 go_roundg k3
 case measure => have := ci.1; have := cj.1; have := d1.1; omega
 case rel => exact ⟨(fi), (true), (wrap64 (ae + 1)), prs, prs, H', ⟨by have := ci.1; have := cj.1; have := d1.1; omega⟩, ⟨by (with_reducible repeat (first | apply Kd.N_alloc | apply Kd.N_drewN | apply Kd.N_drew)); exact Kd.N_mono ab.1 (fun _ hk => ⟨hk.1.1, ⟨hk.1.2, hk.2⟩⟩)⟩, ⟨by (with_reducible repeat (first | apply Kd.N_alloc | apply Kd.N_drewN | apply Kd.N_drew)); exact Kd.N_mono ag.1 (fun _ hk => ⟨hk.1.1, ⟨hk.1.2, hk.2⟩⟩)⟩, ⟨pkn eU.1⟩, ⟨pbg⟩⟩

/-! ### r23_Set: function 15 -/
mutual
def r23_Set.j0 : Nat → List (S73) → Int → Bool → Option ((List (List Int)) × Bool × Int)
 | 0, _, _, _ => none
 | k + 1, x7, x9, bU => if bU = true then (some (([] : List (List Int)), false, x9)) else (r23_Set.l0 k x7 ([] : List (List Int)) 0)
def r23_Set.l0 : Nat → List (S73) → List (List Int) → Int → Option ((List (List Int)) × Bool × Int)
 | 0, _, _, _ => none
 | k + 1, x7, x10, x11 => if x11 < (x7.length : Int) then (if 0 ≤ x11 then (if x10.length < 5864062014805 then (r23_Set.l0 k x7 (x10 ++ [(rd_T73 x7 x11).f2]) (wrap64 (x11 + 1))) else (none)) else (none)) else ((r05_Maximal.f k x10).bind fun a4 => (some (a4, true, 0)))
end
def r23_Set.f (k : Nat) (al : ByteArray) (ag : List (S64)) (ah : List (S38)) (a1 : Int) : Option ((List (List Int)) × Bool × Int) := (r22_Tree.f k al ag ah a1).bind fun ao => (if ao.2.2 = 0 then (r23_Set.j0 k ao.1 ao.2.2 (!ao.2.1)) else (r23_Set.j0 k ao.1 ao.2.2 true))
theorem r23_Set.mono_l : ∀ k, M3 r23_Set.j0 k ∧ M3 r23_Set.l0 k
 | 0 => ⟨fun _ _ _ r h => by simp [r23_Set.j0] at h, fun _ _ _ r h => by simp [r23_Set.l0] at h⟩
 | k + 1 => by
  obtain ⟨bA, bB⟩ := r23_Set.mono_l k
  refine ⟨?_, ?_⟩ <;> dsimp only [M3] <;> intros <;> (first | unfold r23_Set.j0 | unfold r23_Set.l0) <;> repeat' first | (with_reducible first | apply bA | apply bB | apply r05_Maximal.mono | apply r22_Tree.mono | apply lr | apply ln | apply li | refine lb ?_ fun _ => ?_)
theorem r23_Set.mono : ∀ a0 a1 a2 a3 k, LeO (r23_Set.f k a0 a1 a2 a3) (r23_Set.f (k + 1) a0 a1 a2 a3) := by
 intro a0 a1 a2 a3 k
 obtain ⟨bA, bB⟩ := r23_Set.mono_l k
 unfold r23_Set.f
 repeat' first | (with_reducible first | apply bA | apply bB | apply r05_Maximal.mono | apply r22_Tree.mono | apply lr | apply ln | apply li | refine lb ?_ fun _ => ?_)
set_option maxHeartbeats 8000000 in
set_option maxRecDepth 100000 in
theorem r23_Set.calls (k : Nat) (al : ByteArray) (av : Option Addr) (ax : Nat) (ag : List (S64)) (aw : Option Addr) (ay : Nat) (ah : List (S38)) (a1 : Int) (r1 : List (List Int)) (r2 : Bool) (r3 : Int) (w : World) (aR : Kd.C k64 w av ag.length ag) (aN : ag.length ≤ ax) (aT : Kd.C k38 w aw ah.length ah) (aQ : ah.length ≤ ay) (h : r23_Set.f k al ag ah a1 = some (r1, r2, r3)) :
  Calls Try.prog 15 #[.agg #[.string al, .slice av ag.length ax, .slice aw ah.length ay], .int .i64 a1] w fun e w' => ∃ v0_ : Value, e = .returned (.tuple #[v0_, .bool r2, .int .i64 r3]) ∧ Kd.N (Kd.slice 3 (Kd.int .i64)) 39 w' w.heap.size (fun k_ => (w.heap.size ≤ k_)) v0_ r1 ∧ Below w.heap.size w w' := by
 have bP := Try.underlying25
 have bc := am aR
 have a8 := am aN
 clear aR aN
 have bd := am aT
 have a9 := am aQ
 clear aT aQ
 have HB := am (Below.refl w.heap.size w)
 have H := h
 unfold r23_Set.f at H
 clear h
 replace H := bnd H
 obtain ⟨⟨ae, bj, bk⟩, A3, H⟩ := H
 (try dsimp only at H)
 have bu := am H
 clear H
 go_enter Try.func15, Try.ntmps15
 go_upto_region 2 with (first | ((with_reducible refine gate_dst (N := 2) rfl ?_); refine box_ev ?_; intro ab hg w5 hbox hb; have aa := am hbox; have a7 := gwl hg; have bC := a7; replace HB := bsl hb; clear hb hbox hg; have bL := cf3 aa.1) | ((with_reducible refine gate_callee (f := 37) rfl ?_); refine gC 15 Try.func37 _ (r22_Tree.calls k al _ _ ag _ _ ah a1 ae bj bk _ (csb bc HB) a8.1 (csb bd HB) a9.1 A3.1) ?_; rintro e w7 ⟨a5, rfl, aZ, hb⟩; refine ⟨_, rfl, ?_⟩; have aM := am (Kd.N_lower (Kd.N_mono (ok' := fun k_ => (w.heap.size ≤ k_) ∧ k_ ≠ ab) aZ (fun k_ hk_ => ⟨(Nat.le_trans (below_size pbg) hk_), (Kd.freshB (g := ab) (o := .cells #[.string al, .slice av ag.length ax, .slice aw ah.length ay] 25 (0, 0)) (by exact pbk aa.1) k_ hk_)⟩)) (below_size pbg)); replace aa := bbh aa hb; replace HB := bst hb; (try clear hb); (try clear aZ)))
 (try simp only [Act.put, List.setIfInBounds_toArray, List.set_cons_zero, List.set_cons_succ])
 go_cut [24] (fun bR wc => ∃ (kq : Nat) (aD : Bool), bR = .bool aD ∧ Aside0 (r23_Set.j0 kq ae bk aD = some (r1, r2, r3)) ∧ Aside0 (kq ≤ k) ∧ Aside0 (Kd.N k73 73 wc w.heap.size (fun k_ => (w.heap.size ≤ k_) ∧ k_ ≠ ab) a5 ae) ∧ Aside0 (wc.heap[ab]? = some (.cells #[.string al, (.slice av ag.length ax), (.slice aw ah.length ay)] 25 (0, 0))) ∧ Aside0 (Below w.heap.size w wc))
 case first =>
  have H := bu.1
  clear bu
  replace H := ife H
  rcases H with ⟨az, aW, H⟩ | ⟨az, aW, H⟩
  rotate_left
  ·(first | rw [az] | (simp only [i64_w, i32_w]; rw [az]) | skip)
   have H' := am H
   clear H
   go_wp2
   go_meet
   case rel => exact ⟨_, (true), prs, H', ⟨by first | omega | exact Nat.le_refl _⟩, ⟨pkn aM.1⟩, ⟨pbk aa.1⟩, ⟨pbg⟩⟩
  (first | rw [az] | (simp only [i64_w, i32_w]; rw [az]) | skip)
  have H' := am H
  clear H
  go_wp2
  go_meet
  case rel => exact ⟨_, (!bj), prs, H', ⟨by first | omega | exact Nat.le_refl _⟩, ⟨pkn aM.1⟩, ⟨pbk aa.1⟩, ⟨pbg⟩⟩
 clear bu
 try clear c8 az aW bL
 obtain ⟨kq, aD, rfl, HA, bD, af, aa, HB⟩ := hcut
 obtain _ | bJ := kq
 ·exact absurd HA.1 (by simp [r23_Set.j0])
 have H := HA.1
 clear HA
 simp only [r23_Set.j0] at H
 cases aD
 rotate_left
 ·rw [if_pos rfl] at H
  simp only [Option.some.injEq, Prod.mk.injEq] at H
  obtain ⟨rfl, rfl, rfl⟩ := H
  go_wp2
  go_ret3
  exact ⟨_, per, knl, pbg⟩
 rw [if_neg Bool.false_ne_true] at H
 have H' := am H
 clear H
 go_wp2
 go_loopg [10, 11] bJ (fun kq bK bQ w' => ∃ (ap : List (List Int)) (ac : Int), bQ = .int .i64 ac ∧ Aside0 (r23_Set.l0 kq ae ap ac = some (r1, r2, r3)) ∧ Aside0 (kq ≤ bJ) ∧ Aside0 (Kd.N k73 73 w' w.heap.size (fun k_ => (w.heap.size ≤ k_) ∧ some k_ ≠ (bK : Value).ownBlock ∧ k_ ≠ ab) a5 ae) ∧ Aside0 (Kd.N (Kd.slice 3 (Kd.int .i64)) 39 w' w.heap.size (fun k_ => (w.heap.size ≤ k_) ∧ some k_ ≠ (a5 : Value).ownBlock ∧ k_ ≠ ab) bK ap) ∧ Aside0 (w'.heap[ab]? = some (.cells #[.string al, (.slice av ag.length ax), (.slice aw ah.length ay)] 25 (0, 0))) ∧ Aside0 (Below w.heap.size w w'))
 case atStart => exact ⟨(([] : List (List Int))), (0), prs, H', ⟨Nat.le_refl _⟩, ⟨by (with_reducible repeat (first | apply Kd.N_alloc | apply Kd.N_drewN | apply Kd.N_drew)); exact Kd.N_mono af.1 (fun _ hk => ⟨hk.1, ⟨(by simp [Value.ownBlock]), hk.2⟩⟩)⟩, ⟨knl⟩, ⟨pbk aa.1⟩, ⟨pbg⟩⟩
 clear H'
 try clear c8 az aW bL
 obtain ⟨ap, ac, rfl, HA, bE, af, ak, aa, HB⟩ := hrel
 obtain _ | k2 := gk
 ·exact absurd HA.1 (by simp [r23_Set.l0])
 have H := HA.1
 clear HA
 simp only [r23_Set.l0] at H
 replace H := ifl H
 rcases H with ⟨bh, H⟩ | ⟨bh, H⟩
 rotate_left
 ·replace H := bnd H
  obtain ⟨a4, A15, H⟩ := H
  (try dsimp only at H)
  simp only [Option.some.injEq, Prod.mk.injEq] at H
  obtain ⟨rfl, rfl, rfl⟩ := H
  obtain ⟨a6, bi, bx⟩ := Kd.N_slice af.1
  subst bx
  obtain ⟨bN, bO, bz⟩ := Kd.N_slice ak.1
  subst bz
  go_wp2_with (first | ((with_reducible refine gate_callee (f := 38) rfl ?_); refine gC 41 Try.func38 _ (r05_Maximal.calls k2 (fun k_ => ((w.heap.size ≤ k_) ∧ (some k_ ≠ (.slice a6 ae.length bi : Value).ownBlock ∧ k_ ≠ ab))) _ _ ap a4 _ (Kd.N_V (ak.1)) A15.1) ?_; rintro e bW ⟨bT, rfl, aZ, hb⟩; refine ⟨_, rfl, ?_⟩; have bb := am (Kd.N_lower (Kd.N_mono (ok' := fun k_ => (w.heap.size ≤ k_) ∧ some k_ ≠ (.slice a6 ae.length bi : Value).ownBlock ∧ k_ ≠ ab) aZ (fun k_ hk_ => ⟨Or.elim hk_ (fun hs_ => hs_.1) (fun hn_ => (Nat.le_trans (below_size pbg) hn_)), Or.elim hk_ (fun hs_ => hs_.2.1) (fun hn_ => (Kd.fresh' (Kd.N_lt (pkn af.1)) k_ hn_)), Or.elim hk_ (fun hs_ => hs_.2.2) (fun hn_ => (Kd.freshB (g := ab) (o := .cells #[.string al, .slice av ag.length ax, .slice aw ah.length ay] 25 (0, 0)) (by exact pbk aa.1) k_ hn_))⟩)) (below_size pbg)); replace af := am (Kd.N_elder' (pkn af.1) (Kd.N_base aZ) hb); replace ak := am (Kd.N_elder' (pkn ak.1) (Kd.N_base aZ) hb); replace aa := bbh aa hb; replace HB := bst hb; (try clear hb); (try clear aZ)))
  go_ret3
  exact ⟨_, per, by (with_reducible repeat (first | apply Kd.N_alloc | apply Kd.N_drewN | apply Kd.N_drew)); exact Kd.N_mono bb.1 (fun _ hk => hk.1), pbg⟩
 replace H := ifp H
 obtain ⟨bF, H⟩ := H
 have bG := decide_eq_true bF
 clear bF
 replace H := ifp H
 obtain ⟨bH, H⟩ := H
 have bf := am bH
 clear bH
 obtain ⟨bl, aH⟩ : ∃ y_ : List (List Int), y_ = (ap ++ [(rd_T73 ae ac).f2]) := ⟨_, rfl⟩
 replace H : (r23_Set.l0 k2 ae bl (wrap64 (ac + 1))) = some (r1, r2, r3) := hrp aH H
 have bg := am aH
 clear aH
 have H' := am H
 clear H
 obtain ⟨bM, aE, bw⟩ := Kd.N_slice af.1
 subst bw
 have aJ : 0 ≤ (ac : Int) := dq
 have aK : ac < (ae.length : Int) := dq
 obtain ⟨au, aU, aV, bv, bo, bp, aI, bq, aC, aA⟩ := at_T73 (Kd.N_reads' af.1).2.2 ac aJ aK
 cases bv
 obtain ⟨bI, aY, aX, aG⟩ := Kd.N_get af.1 z73 ac aJ (by first | exact aK | exact dq | (have e_ := (Kd.N_reads' af.1).1; omega))
 obtain ⟨br, bs, rfl, ar, aq⟩ := k73_openF aX
 have aj := aG 2 _ rfl
 rw [add_field _ _ 2 (by omega)] at aj
 replace aj := Option.some.inj (aj.symm.trans aI)
 injection aj with hva_ hvn_ hvc_
 rw [hva_] at aq
 rw [hvc_] at ar
 have ai := am (show Kd.V (Kd.int .i64) 3 _ w.heap.size _ _ ((rd_T73 ae ac).f2) from Kd.V_mk ar aq)
 clear hva_ hvn_ hvc_ aq ar aG aY
 have bn := am aA
 have bm := am aC
 clear aA aC
 replace aJ := eq_true aJ
 replace aK := eq_true aK
 go_wp2_with (first | ((with_reducible refine gate_builtin (b := .append) (xs := #[.tmp 32, .tmp 38]) rfl ?_); at_builtin; refine Kd.N_append (Kd.slice 3 (Kd.int .i64)) (w0 := w) w.heap.size rfl (.tmp 32) (.tmp 38) 30 39 (.slice none 0 0) 24 rfl Try.underlying30 info39 rfl (by decide) (by omega) u10 ap ((rd_T73 ae ac).f2) [.slice aU ((rd_T73 ae ac).f2).length aV] (fun k_ => (w.heap.size ≤ k_) ∧ some k_ ≠ (.slice (some au) ae.length aE : Value).ownBlock ∧ k_ ≠ ab) (fun k_ => ((fun k_ => (w.heap.size ≤ k_) ∧ some k_ ≠ (.slice (some au) ae.length aE : Value).ownBlock ∧ k_ ≠ ab)) k_ ∧ some k_ ≠ (u10 : Value).ownBlock) rfl rfl ?aP (fun _ hk => hk) ?aF ?aO ?aB ?aS ?aL ?_; (case aP => exact (Kd.FK_slice_mk (Kd.V_reads' (Kd.V_mono (ok' := (fun k_ => ((fun k_ => (w.heap.size ≤ k_) ∧ some k_ ≠ (.slice (some au) ae.length aE : Value).ownBlock ∧ k_ ≠ ab)) k_ ∧ some k_ ≠ (u10 : Value).ownBlock)) (ai.1) (fun k_ hk => ⟨⟨hk.1.1, ⟨hk.2, hk.1.2.2⟩⟩, hk.1.2.1⟩))).2.1 (Kd.V_F (Kd.V_mono (ok' := (fun k_ => ((fun k_ => (w.heap.size ≤ k_) ∧ some k_ ≠ (.slice (some au) ae.length aE : Value).ownBlock ∧ k_ ≠ ab)) k_ ∧ some k_ ≠ (u10 : Value).ownBlock)) (ai.1) (fun k_ hk => ⟨⟨hk.1.1, ⟨hk.2, hk.1.2.2⟩⟩, hk.1.2.1⟩))))); (case aB => exact pbg); (case aF => exact (fun k_ hk => ⟨(Nat.le_trans (below_size pbg) hk), Kd.fresh' (Kd.N_lt (pkn af.1)) k_ hk, Kd.freshB (g := ab) (o := .cells #[.string al, .slice av ag.length ax, .slice aw ah.length ay] 25 (0, 0)) (by exact pbk aa.1) k_ hk⟩)); (case aO => exact (pkn ak.1)); (case aS => exact (below_size pbg)); (case aL => have := bf.1; omega); intro bS bV ho hb hg hat; rw [← bg.1] at ho; have ba := am ho; replace af := am (Kd.N_afterv (ok := (fun k_ => (w.heap.size ≤ k_) ∧ k_ ≠ ab)) (by (with_reducible repeat (first | apply Kd.N_alloc | apply Kd.N_drewN | apply Kd.N_drew)); exact Kd.N_mono af.1 (fun _ hk => ⟨⟨hk.1, hk.2.2⟩, hk.2.1⟩)) hg hat); replace aa := (bgr aa hg (Kd.N_ne ak.1 aa.1 (by decide))); replace ai := am (Kd.V_afterv (ok := (fun k_ => (w.heap.size ≤ k_) ∧ some k_ ≠ (.slice (some au) ae.length aE : Value).ownBlock ∧ k_ ≠ ab)) (by (with_reducible repeat (first | apply Kd.V_alloc | apply Kd.V_drewN | apply Kd.V_drew)); exact Kd.V_mono ai.1 (fun _ hk => ⟨⟨hk.1.1, ⟨hk.2, hk.1.2.2⟩⟩, hk.1.2.1⟩)) hg hat); replace HB := am hb; clear ak; clear ho hb hg hat))
 go_roundg k2
 case measure => have := bD.1; have := bE.1; omega
 case rel => exact ⟨(bl), (wrap64 (ac + 1)), prs, H', ⟨by have := bD.1; have := bE.1; omega⟩, ⟨by (with_reducible repeat (first | apply Kd.N_alloc | apply Kd.N_drewN | apply Kd.N_drew)); exact Kd.N_mono af.1 (fun _ hk => ⟨hk.1.1, ⟨hk.2, hk.1.2⟩⟩)⟩, ⟨pkn ba.1⟩, ⟨pbk aa.1⟩, ⟨pbg⟩⟩

/-! ### petrinetlaw23_MincoverSets: function 3 -/
def petrinetlaw23_MincoverSets.j0 : Nat → Int → Bool → ByteArray → List (S64) → List (S38) → Option (Bool)
 | 0, _, _, _, _, _ => none
 | k + 1, x1, cb, aJ, aK, aL => if cb = true then ((petrinetlaw23_exampleHolds.f k).bind fun aW => (some aW)) else ((mincover_Set.f k aJ aK aL x1).bind fun aN => ((r23_Set.f k aJ aK aL x1).bind fun aO => ((r04_Lists.f k aN.1 aO.1).bind fun a5 => (if a5 = true then (if (aN.2.1 == aO.2.1) = true then (if aN.2.2 = aO.2.2 then ((petrinetlaw23_exampleHolds.f k).bind fun a6 => (some a6)) else (none)) else (none)) else (none)))))
def petrinetlaw23_MincoverSets.f (k : Nat) (ay : ByteArray) (av : List (S64)) (aw : List (S38)) (a1 : Int) : Option (Bool) := (r09_Small.f k ay av aw).bind fun aj => (if aj.2.2.2 = true then ((r09_Light.f k aj.1 aj.2.1 aj.2.2.1).bind fun aU => (if aU = true then (if a1 > 200 then (petrinetlaw23_MincoverSets.j0 k a1 (decide (a1 ≤ 20000)) aj.1 aj.2.1 aj.2.2.1) else (petrinetlaw23_MincoverSets.j0 k a1 false aj.1 aj.2.1 aj.2.2.1)) else ((r09_Valid.f k aj.1 aj.2.1 aj.2.2.1).bind fun aV => (if aV = true then (petrinetlaw23_MincoverSets.j0 k a1 true aj.1 aj.2.1 aj.2.2.1) else (if a1 > 200 then (petrinetlaw23_MincoverSets.j0 k a1 (decide (a1 ≤ 20000)) aj.1 aj.2.1 aj.2.2.1) else (petrinetlaw23_MincoverSets.j0 k a1 false aj.1 aj.2.1 aj.2.2.1)))))) else (petrinetlaw23_MincoverSets.j0 k a1 true aj.1 aj.2.1 aj.2.2.1))
theorem petrinetlaw23_MincoverSets.mono_l : ∀ k, M5 petrinetlaw23_MincoverSets.j0 k
 | 0 => fun _ _ _ _ _ r h => by simp [petrinetlaw23_MincoverSets.j0] at h
 | k + 1 => by
  have bp := petrinetlaw23_MincoverSets.mono_l k
  ·intro y0 y1 y2 y3 y4
   unfold petrinetlaw23_MincoverSets.j0
   repeat' first | (with_reducible first | apply bp | apply mincover_Set.mono | apply petrinetlaw23_exampleHolds.mono | apply r04_Lists.mono | apply r09_Light.mono | apply r09_Small.mono | apply r09_Valid.mono | apply r23_Set.mono | apply lr | apply ln | apply li | refine lb ?_ fun _ => ?_)
theorem petrinetlaw23_MincoverSets.mono : ∀ a0 a1 a2 a3 k, LeO (petrinetlaw23_MincoverSets.f k a0 a1 a2 a3) (petrinetlaw23_MincoverSets.f (k + 1) a0 a1 a2 a3) := by
 intro a0 a1 a2 a3 k
 have bp := petrinetlaw23_MincoverSets.mono_l k
 unfold petrinetlaw23_MincoverSets.f
 repeat' first | (with_reducible first | apply bp | apply mincover_Set.mono | apply petrinetlaw23_exampleHolds.mono | apply r04_Lists.mono | apply r09_Light.mono | apply r09_Small.mono | apply r09_Valid.mono | apply r23_Set.mono | apply lr | apply ln | apply li | refine lb ?_ fun _ => ?_)
set_option maxHeartbeats 8000000 in
set_option maxRecDepth 100000 in
theorem petrinetlaw23_MincoverSets.calls (k : Nat) (ay : ByteArray) (aE : Option Addr) (aG : Nat) (av : List (S64)) (aF : Option Addr) (aH : Nat) (aw : List (S38)) (a1 : Int) (r : Bool) (w : World) (aS : Kd.C k64 w aE av.length av) (aQ : av.length ≤ aG) (aT : Kd.C k38 w aF aw.length aw) (aR : aw.length ≤ aH) (h : petrinetlaw23_MincoverSets.f k ay av aw a1 = some r) :
  Calls Try.prog 3 #[.agg #[.string ay, .slice aE av.length aG, .slice aF aw.length aH], .int .i64 a1] w fun e w' => e = .returned (.bool r) ∧ Below w.heap.size w w' := by
 have b6 := Try.underlying25
 have ba := am aS
 have a8 := am aQ
 clear aS aQ
 have bb := am aT
 have a9 := am aR
 clear aT aR
 have HB := am (Below.refl w.heap.size w)
 have H := h
 unfold petrinetlaw23_MincoverSets.f at H
 clear h
 replace H := bnd H
 obtain ⟨⟨aq, ao, ap, bd⟩, A3, H⟩ := H
 (try dsimp only at H)
 have bj := am H
 clear H
 go_enter Try.func3, Try.ntmps3
 go_upto_region 2 with (first | ((with_reducible refine gate_dst (N := 2) rfl ?_); refine box_ev ?_; intro ak hg w5 hbox hb; have ac := am hbox; have aC := gwl hg; have bC := aC; replace HB := bsl hb; clear hb hbox hg; have cf := cf3 ac.1) | ((with_reducible refine gate_callee (f := 10) rfl ?_); refine gC 15 Try.func10 _ (r09_Small.calls k ay (fun k_ => k_ < w.heap.size) _ _ av (fun k_ => k_ < w.heap.size) _ _ aw aq ao ap bd _ (Kd.V_mk a8.1 (Kd.F_below (Kd.C_F k64_heap ba.1) pbg)) (Kd.V_mk a9.1 (Kd.F_below (Kd.C_F k38_heap bb.1) pbg)) A3.1) ?_; rintro e w7 ⟨b8, b9, rfl, aM, ho1, hb⟩; refine ⟨_, rfl, ?_⟩; have ae := am (Kd.V_lower (Kd.V_mono (ok' := fun k_ => k_ ≠ ak) aM (fun k_ hk_ => Or.elim hk_ (fun hs_ => Or.elim hs_ (fun hs_ => fun e_ => Nat.not_le.2 hs_ (by rw [e_]; exact aC.1)) (fun hs_ => fun e_ => Nat.not_le.2 hs_ (by rw [e_]; exact aC.1))) (fun hn_ => (Kd.freshB (g := ak) (o := .cells #[.string ay, .slice aE av.length aG, .slice aF aw.length aH] 25 (0, 0)) (by exact pbk ac.1) k_ hn_)))) (below_size pbg)); have af := am (Kd.V_lower (Kd.V_mono (ok' := fun k_ => k_ ≠ ak) ho1 (fun k_ hk_ => Or.elim hk_ (fun hs_ => Or.elim hs_ (fun hs_ => fun e_ => Nat.not_le.2 hs_ (by rw [e_]; exact aC.1)) (fun hs_ => fun e_ => Nat.not_le.2 hs_ (by rw [e_]; exact aC.1))) (fun hn_ => (Kd.freshB (g := ak) (o := .cells #[.string ay, .slice aE av.length aG, .slice aF aw.length aH] 25 (0, 0)) (by exact pbk ac.1) k_ hn_)))) (below_size pbg)); replace ac := bbh ac hb; replace HB := bst hb; (try clear hb); (try clear aM); (try clear ho1)) | ((with_reducible refine gate_dst (N := 5) rfl ?_); refine box_ev (N := 5) (cs := #[.string (⟨#[]⟩ : ByteArray), .slice none 0 0, .slice none 0 0]) (t := 25) ?_; intro aa hg w8 hbox hb; have ab := am hbox; have a7 := gwb hg; have bD := a7; have ag := nlt hg ac; have al := ngt hg ac; replace ae := vbb ae hg hb; replace af := vbb af hg hb; replace ac := bbh ac hb; replace HB := bst hb; clear hb hbox hg; have b4 := al.1; have b5 := ag.1; have br := cf3 ab.1; obtain ⟨aA, ar, bl⟩ := Kd.V_slice ae.1; subst bl; obtain ⟨aB, au, bm⟩ := Kd.V_slice af.1; subst bm))
 (try simp only [Act.put, List.setIfInBounds_toArray, List.set_cons_zero, List.set_cons_succ])
 go_cut [36] (fun b7 wc => ∃ (kq : Nat) (aI : Bool), b7 = .bool aI ∧ Aside0 (petrinetlaw23_MincoverSets.j0 kq a1 aI aq ao ap = some r) ∧ Aside0 (kq ≤ k) ∧ Aside0 (Kd.V k64 64 wc w.heap.size (fun k_ => k_ ≠ ak ∧ k_ ≠ aa) (.slice aA ao.length ar) ao) ∧ Aside0 (Kd.V k38 38 wc w.heap.size (fun k_ => k_ ≠ ak ∧ k_ ≠ aa) (.slice aB ap.length au) ap) ∧ Aside0 (wc.heap[ak]? = some (.cells #[.string ay, (.slice aE av.length aG), (.slice aF aw.length aH)] 25 (0, 0))) ∧ Aside0 (wc.heap[aa]? = some (.cells #[.string aq, (.slice aA ao.length ar), (.slice aB ap.length au)] 25 (0, 0))) ∧ Aside0 (Below w.heap.size w wc))
 case first =>
  have H := bj.1
  clear bj
  cases bd
  ·rw [if_neg Bool.false_ne_true] at H
   have H' := am H
   clear H
   go_wp2
   go_meet
   case rel => exact ⟨_, (true), prs, H', ⟨by first | omega | exact Nat.le_refl _⟩, ⟨by (with_reducible repeat (first | apply Kd.V_alloc | apply Kd.V_drewN | apply Kd.V_drew)); exact Kd.V_mono (fV3 aa (Kd.V_mono ae.1 (fun k_ hk => (⟨hk, hk.2⟩ : _ ∧ k_ ≠ aa))) (fun _ hk => hk.2)) (fun _ hk => ⟨hk.1.1, hk.1.2⟩)⟩, ⟨by (with_reducible repeat (first | apply Kd.V_alloc | apply Kd.V_drewN | apply Kd.V_drew)); exact Kd.V_mono (fV3 aa (Kd.V_mono af.1 (fun k_ hk => (⟨hk, hk.2⟩ : _ ∧ k_ ≠ aa))) (fun _ hk => hk.2)) (fun _ hk => ⟨hk.1.1, hk.1.2⟩)⟩, ⟨by (with_reducible repeat (first | refine blk_drewN ?_ _ | refine blk_drew ?_ | refine blk_alloc ?_ _)); refine bf3 ?_ ag.1; exact pbk ac.1⟩, ⟨by (with_reducible repeat (first | refine blk_drewN ?_ _ | refine blk_drew ?_ | refine blk_alloc ?_ _)); exact bp3 (pbk ab.1)⟩, ⟨pbg⟩⟩
  rw [if_pos rfl] at H
  replace H := bnd H
  obtain ⟨aU, A14, H⟩ := H
  (try dsimp only at H)
  cases aU
  rotate_left
  ·rw [if_pos rfl] at H
   replace H := ifg H
   rcases H with ⟨az, H⟩ | ⟨az, H⟩
   rotate_left
   ·(first | rw [az] | (simp only [i64_w, i32_w]; rw [az]) | skip)
    have H' := am H
    clear H
    have bK := al.1
    have bQ := ag.1
    have bu := cf3 ab.1
    go_wp2_with (first | (go_at_call 11; (with_reducible refine (r09_Light.calls k aq _ _ ao _ _ ap true _ ?side1 ?side2 ?side3 ?side4 A14.1).mono ?_); (case side1 => refine (Kd.V_reads' (e := 64) (base := w.heap.size) (ok := fun k_ => (k_ ≠ ak ∧ k_ ≠ aa)) (n := ao.length) (c := ar) ?_).2.2; exact (by (with_reducible repeat (first | apply Kd.V_alloc | apply Kd.V_drewN | apply Kd.V_drew)); exact (fV3 aa ae.1 (fun k_ hk => hk.2)))); (case side2 => exact (Kd.V_reads' ae.1).2.1); (case side3 => refine (Kd.V_reads' (e := 38) (base := w.heap.size) (ok := fun k_ => (k_ ≠ ak ∧ k_ ≠ aa)) (n := ap.length) (c := au) ?_).2.2; exact (by (with_reducible repeat (first | apply Kd.V_alloc | apply Kd.V_drewN | apply Kd.V_drew)); exact (fV3 aa af.1 (fun k_ hk => hk.2)))); (case side4 => exact (Kd.V_reads' af.1).2.1); rintro e co ⟨rfl, hb⟩; replace ae := am (Kd.V_below (by (with_reducible repeat (first | apply Kd.V_alloc | apply Kd.V_drewN | apply Kd.V_drew)); exact (fV3 aa ae.1 (fun k_ hk => hk.2))) hb); replace af := am (Kd.V_below (by (with_reducible repeat (first | apply Kd.V_alloc | apply Kd.V_drewN | apply Kd.V_drew)); exact (fV3 aa af.1 (fun k_ hk => hk.2))) hb); replace ac := bbx ac (fun h_ => by (with_reducible repeat (first | refine blk_drewN ?_ _ | refine blk_drew ?_ | refine blk_alloc ?_ _)); refine bf3 ?_ ag.1; exact pbk h_) hb; replace ab := am (blk_below (g := aa) (o := .cells #[.string aq, .slice aA ao.length ar, .slice aB ap.length au] 25 (0, 0)) (by (with_reducible repeat (first | refine blk_drewN ?_ _ | refine blk_drew ?_ | refine blk_alloc ?_ _)); exact bp3 (pbk ab.1)) hb); replace HB := bst hb; (try clear hb); (try clear hk)))
    go_meet
    case rel => exact ⟨_, (false), prs, H', ⟨by first | omega | exact Nat.le_refl _⟩, ⟨pkv ae.1⟩, ⟨pkv af.1⟩, ⟨pbk ac.1⟩, ⟨pbk ab.1⟩, ⟨pbg⟩⟩
   (first | rw [az] | (simp only [i64_w, i32_w]; rw [az]) | skip)
   have H' := am H
   clear H
   have bJ := al.1
   have bP := ag.1
   have bs := cf3 ab.1
   go_wp2_with (first | (go_at_call 11; (with_reducible refine (r09_Light.calls k aq _ _ ao _ _ ap true _ ?side1 ?side2 ?side3 ?side4 A14.1).mono ?_); (case side1 => refine (Kd.V_reads' (e := 64) (base := w.heap.size) (ok := fun k_ => (k_ ≠ ak ∧ k_ ≠ aa)) (n := ao.length) (c := ar) ?_).2.2; exact (by (with_reducible repeat (first | apply Kd.V_alloc | apply Kd.V_drewN | apply Kd.V_drew)); exact (fV3 aa ae.1 (fun k_ hk => hk.2)))); (case side2 => exact (Kd.V_reads' ae.1).2.1); (case side3 => refine (Kd.V_reads' (e := 38) (base := w.heap.size) (ok := fun k_ => (k_ ≠ ak ∧ k_ ≠ aa)) (n := ap.length) (c := au) ?_).2.2; exact (by (with_reducible repeat (first | apply Kd.V_alloc | apply Kd.V_drewN | apply Kd.V_drew)); exact (fV3 aa af.1 (fun k_ hk => hk.2)))); (case side4 => exact (Kd.V_reads' af.1).2.1); rintro e cn ⟨rfl, hb⟩; replace ae := am (Kd.V_below (by (with_reducible repeat (first | apply Kd.V_alloc | apply Kd.V_drewN | apply Kd.V_drew)); exact (fV3 aa ae.1 (fun k_ hk => hk.2))) hb); replace af := am (Kd.V_below (by (with_reducible repeat (first | apply Kd.V_alloc | apply Kd.V_drewN | apply Kd.V_drew)); exact (fV3 aa af.1 (fun k_ hk => hk.2))) hb); replace ac := bbx ac (fun h_ => by (with_reducible repeat (first | refine blk_drewN ?_ _ | refine blk_drew ?_ | refine blk_alloc ?_ _)); refine bf3 ?_ ag.1; exact pbk h_) hb; replace ab := am (blk_below (g := aa) (o := .cells #[.string aq, .slice aA ao.length ar, .slice aB ap.length au] 25 (0, 0)) (by (with_reducible repeat (first | refine blk_drewN ?_ _ | refine blk_drew ?_ | refine blk_alloc ?_ _)); exact bp3 (pbk ab.1)) hb); replace HB := bst hb; (try clear hb); (try clear hk)))
   go_meet
   case rel => exact ⟨_, (decide (a1 ≤ 20000)), prs, H', ⟨by first | omega | exact Nat.le_refl _⟩, ⟨pkv ae.1⟩, ⟨pkv af.1⟩, ⟨pbk ac.1⟩, ⟨pbk ab.1⟩, ⟨pbg⟩⟩
  rw [if_neg Bool.false_ne_true] at H
  replace H := bnd H
  obtain ⟨aV, bi, H⟩ := H
  (try dsimp only at H)
  cases aV
  rotate_left
  ·rw [if_pos rfl] at H
   have H' := am H
   clear H
   have bL := al.1
   have bR := ag.1
   have bv := cf3 ab.1
   go_wp2_with (first | (go_at_call 11; (with_reducible refine (r09_Light.calls k aq _ _ ao _ _ ap false _ ?side1 ?side2 ?side3 ?side4 A14.1).mono ?_); (case side1 => refine (Kd.V_reads' (e := 64) (base := w.heap.size) (ok := fun k_ => (k_ ≠ ak ∧ k_ ≠ aa)) (n := ao.length) (c := ar) ?_).2.2; exact (by (with_reducible repeat (first | apply Kd.V_alloc | apply Kd.V_drewN | apply Kd.V_drew)); exact (fV3 aa ae.1 (fun k_ hk => hk.2)))); (case side2 => exact (Kd.V_reads' ae.1).2.1); (case side3 => refine (Kd.V_reads' (e := 38) (base := w.heap.size) (ok := fun k_ => (k_ ≠ ak ∧ k_ ≠ aa)) (n := ap.length) (c := au) ?_).2.2; exact (by (with_reducible repeat (first | apply Kd.V_alloc | apply Kd.V_drewN | apply Kd.V_drew)); exact (fV3 aa af.1 (fun k_ hk => hk.2)))); (case side4 => exact (Kd.V_reads' af.1).2.1); rintro e cp ⟨rfl, hb⟩; replace ae := am (Kd.V_below (by (with_reducible repeat (first | apply Kd.V_alloc | apply Kd.V_drewN | apply Kd.V_drew)); exact (fV3 aa ae.1 (fun k_ hk => hk.2))) hb); replace af := am (Kd.V_below (by (with_reducible repeat (first | apply Kd.V_alloc | apply Kd.V_drewN | apply Kd.V_drew)); exact (fV3 aa af.1 (fun k_ hk => hk.2))) hb); replace ac := bbx ac (fun h_ => by (with_reducible repeat (first | refine blk_drewN ?_ _ | refine blk_drew ?_ | refine blk_alloc ?_ _)); refine bf3 ?_ ag.1; exact pbk h_) hb; replace ab := am (blk_below (g := aa) (o := .cells #[.string aq, .slice aA ao.length ar, .slice aB ap.length au] 25 (0, 0)) (by (with_reducible repeat (first | refine blk_drewN ?_ _ | refine blk_drew ?_ | refine blk_alloc ?_ _)); exact bp3 (pbk ab.1)) hb); replace HB := bst hb; (try clear hb); (try clear hk); have bw := cf3 ab.1) | (go_at_call 12; (with_reducible refine (r09_Valid.calls k aq _ _ ao _ _ ap true _ ?side1 ?side2 ?side3 ?side4 bi.1).mono ?_); (case side1 => exact csd ((Kd.V_reads' ae.1).2.2)); (case side2 => exact (Kd.V_reads' ae.1).2.1); (case side3 => exact csd ((Kd.V_reads' af.1).2.2)); (case side4 => exact (Kd.V_reads' af.1).2.1); rintro e cq ⟨rfl, hb⟩; replace ae := vbw ae hb; replace af := vbw af hb; replace ac := bbh ac hb; replace ab := bbh ab hb; replace HB := bst hb; (try clear hb)))
   go_meet
   case rel => exact ⟨_, (true), prs, H', ⟨by first | omega | exact Nat.le_refl _⟩, ⟨pkv ae.1⟩, ⟨pkv af.1⟩, ⟨pbk ac.1⟩, ⟨pbk ab.1⟩, ⟨pbg⟩⟩
  rw [if_neg Bool.false_ne_true] at H
  replace H := ifg H
  rcases H with ⟨aP, H⟩ | ⟨aP, H⟩
  rotate_left
  ·have H' := am H
   clear H
   have bN := al.1
   have bT := ag.1
   have bA := cf3 ab.1
   go_wp2_with (first | (go_at_call 11; (with_reducible refine (r09_Light.calls k aq _ _ ao _ _ ap false _ ?side1 ?side2 ?side3 ?side4 A14.1).mono ?_); (case side1 => refine (Kd.V_reads' (e := 64) (base := w.heap.size) (ok := fun k_ => (k_ ≠ ak ∧ k_ ≠ aa)) (n := ao.length) (c := ar) ?_).2.2; exact (by (with_reducible repeat (first | apply Kd.V_alloc | apply Kd.V_drewN | apply Kd.V_drew)); exact (fV3 aa ae.1 (fun k_ hk => hk.2)))); (case side2 => exact (Kd.V_reads' ae.1).2.1); (case side3 => refine (Kd.V_reads' (e := 38) (base := w.heap.size) (ok := fun k_ => (k_ ≠ ak ∧ k_ ≠ aa)) (n := ap.length) (c := au) ?_).2.2; exact (by (with_reducible repeat (first | apply Kd.V_alloc | apply Kd.V_drewN | apply Kd.V_drew)); exact (fV3 aa af.1 (fun k_ hk => hk.2)))); (case side4 => exact (Kd.V_reads' af.1).2.1); rintro e cv ⟨rfl, hb⟩; replace ae := am (Kd.V_below (by (with_reducible repeat (first | apply Kd.V_alloc | apply Kd.V_drewN | apply Kd.V_drew)); exact (fV3 aa ae.1 (fun k_ hk => hk.2))) hb); replace af := am (Kd.V_below (by (with_reducible repeat (first | apply Kd.V_alloc | apply Kd.V_drewN | apply Kd.V_drew)); exact (fV3 aa af.1 (fun k_ hk => hk.2))) hb); replace ac := bbx ac (fun h_ => by (with_reducible repeat (first | refine blk_drewN ?_ _ | refine blk_drew ?_ | refine blk_alloc ?_ _)); refine bf3 ?_ ag.1; exact pbk h_) hb; replace ab := am (blk_below (g := aa) (o := .cells #[.string aq, .slice aA ao.length ar, .slice aB ap.length au] 25 (0, 0)) (by (with_reducible repeat (first | refine blk_drewN ?_ _ | refine blk_drew ?_ | refine blk_alloc ?_ _)); exact bp3 (pbk ab.1)) hb); replace HB := bst hb; (try clear hb); (try clear hk); have bB := cf3 ab.1) | (go_at_call 12; (with_reducible refine (r09_Valid.calls k aq _ _ ao _ _ ap false _ ?side1 ?side2 ?side3 ?side4 bi.1).mono ?_); (case side1 => exact csd ((Kd.V_reads' ae.1).2.2)); (case side2 => exact (Kd.V_reads' ae.1).2.1); (case side3 => exact csd ((Kd.V_reads' af.1).2.2)); (case side4 => exact (Kd.V_reads' af.1).2.1); rintro e cw ⟨rfl, hb⟩; replace ae := vbw ae hb; replace af := vbw af hb; replace ac := bbh ac hb; replace ab := bbh ab hb; replace HB := bst hb; (try clear hb)))
   go_meet
   case rel => exact ⟨_, (false), prs, H', ⟨by first | omega | exact Nat.le_refl _⟩, ⟨pkv ae.1⟩, ⟨pkv af.1⟩, ⟨pbk ac.1⟩, ⟨pbk ab.1⟩, ⟨pbg⟩⟩
  have H' := am H
  clear H
  have bM := al.1
  have bS := ag.1
  have bx := cf3 ab.1
  go_wp2_with (first | (go_at_call 11; (with_reducible refine (r09_Light.calls k aq _ _ ao _ _ ap false _ ?side1 ?side2 ?side3 ?side4 A14.1).mono ?_); (case side1 => refine (Kd.V_reads' (e := 64) (base := w.heap.size) (ok := fun k_ => (k_ ≠ ak ∧ k_ ≠ aa)) (n := ao.length) (c := ar) ?_).2.2; exact (by (with_reducible repeat (first | apply Kd.V_alloc | apply Kd.V_drewN | apply Kd.V_drew)); exact (fV3 aa ae.1 (fun k_ hk => hk.2)))); (case side2 => exact (Kd.V_reads' ae.1).2.1); (case side3 => refine (Kd.V_reads' (e := 38) (base := w.heap.size) (ok := fun k_ => (k_ ≠ ak ∧ k_ ≠ aa)) (n := ap.length) (c := au) ?_).2.2; exact (by (with_reducible repeat (first | apply Kd.V_alloc | apply Kd.V_drewN | apply Kd.V_drew)); exact (fV3 aa af.1 (fun k_ hk => hk.2)))); (case side4 => exact (Kd.V_reads' af.1).2.1); rintro e cr ⟨rfl, hb⟩; replace ae := am (Kd.V_below (by (with_reducible repeat (first | apply Kd.V_alloc | apply Kd.V_drewN | apply Kd.V_drew)); exact (fV3 aa ae.1 (fun k_ hk => hk.2))) hb); replace af := am (Kd.V_below (by (with_reducible repeat (first | apply Kd.V_alloc | apply Kd.V_drewN | apply Kd.V_drew)); exact (fV3 aa af.1 (fun k_ hk => hk.2))) hb); replace ac := bbx ac (fun h_ => by (with_reducible repeat (first | refine blk_drewN ?_ _ | refine blk_drew ?_ | refine blk_alloc ?_ _)); refine bf3 ?_ ag.1; exact pbk h_) hb; replace ab := am (blk_below (g := aa) (o := .cells #[.string aq, .slice aA ao.length ar, .slice aB ap.length au] 25 (0, 0)) (by (with_reducible repeat (first | refine blk_drewN ?_ _ | refine blk_drew ?_ | refine blk_alloc ?_ _)); exact bp3 (pbk ab.1)) hb); replace HB := bst hb; (try clear hb); (try clear hk); have bz := cf3 ab.1) | (go_at_call 12; (with_reducible refine (r09_Valid.calls k aq _ _ ao _ _ ap false _ ?side1 ?side2 ?side3 ?side4 bi.1).mono ?_); (case side1 => exact csd ((Kd.V_reads' ae.1).2.2)); (case side2 => exact (Kd.V_reads' ae.1).2.1); (case side3 => exact csd ((Kd.V_reads' af.1).2.2)); (case side4 => exact (Kd.V_reads' af.1).2.1); rintro e cu ⟨rfl, hb⟩; replace ae := vbw ae hb; replace af := vbw af hb; replace ac := bbh ac hb; replace ab := bbh ab hb; replace HB := bst hb; (try clear hb)))
  go_meet
  case rel => exact ⟨_, (decide (a1 ≤ 20000)), prs, H', ⟨by first | omega | exact Nat.le_refl _⟩, ⟨pkv ae.1⟩, ⟨pkv af.1⟩, ⟨pbk ac.1⟩, ⟨pbk ab.1⟩, ⟨pbg⟩⟩
 clear bj
 try clear ch ci cj az ck cm aP br bs bu bv bw bx bz bA bB cf
 obtain ⟨kq, aI, rfl, HA, cg, ah, ai, ac, ab, HB⟩ := hcut
 obtain _ | bc := kq
 ·exact absurd HA.1 (by simp [petrinetlaw23_MincoverSets.j0])
 have H := HA.1
 clear HA
 simp only [petrinetlaw23_MincoverSets.j0] at H
 cases aI
 rotate_left
 ·rw [if_pos rfl] at H
  replace H := bnd H
  obtain ⟨aW, bV, H⟩ := H
  (try dsimp only at H)
  obtain rfl := Option.some.inj H
  go_wp2_with (first | ((with_reducible refine gate_callee (f := 13) rfl ?_); refine gC 37 Try.func13 _ (petrinetlaw23_exampleHolds.calls bc  aW _ bV.1) ?_; rintro e cx ⟨rfl, hb⟩; refine ⟨_, rfl, ?_⟩; replace ah := vbw ah hb; replace ai := vbw ai hb; replace ac := bbh ac hb; replace ab := bbh ab hb; replace HB := bst hb; (try clear hb)))
  go_ret
  exact ⟨per, pbg⟩
 rw [if_neg Bool.false_ne_true] at H
 replace H := bnd H
 obtain ⟨⟨bf, aX, aY⟩, bW, H⟩ := H
 (try dsimp only at H)
 replace H := bnd H
 obtain ⟨⟨bg, aZ, a4⟩, bX, H⟩ := H
 (try dsimp only at H)
 replace H := bnd H
 obtain ⟨a5, bY, H⟩ := H
 (try dsimp only at H)
 cases a5
 ·rw [if_neg Bool.false_ne_true] at H
  exact absurd H (by simp)
 rw [if_pos rfl] at H
 replace H := ifp H
 obtain ⟨bh, H⟩ := H
 have bE := bh
 (try (have bF : decide (aX = aZ) = true := by simpa using bh))
 (try (have bG : (aX == aZ) = true := by simpa using bh))
 clear bh
 replace H := ifp H
 obtain ⟨bk, H⟩ := H
 have bH : (aY == a4) = true := beq_iff_eq.mpr bk
 have bI : (aY != a4) = false := bne_eq_false_iff_eq.mpr bk
 clear bk
 replace H := bnd H
 obtain ⟨a6, bZ, H⟩ := H
 (try dsimp only at H)
 obtain rfl := Option.some.inj H
 have bO := al.1
 have bU := ag.1
 have cd := cf3 ab.1
 go_wp2_with (first | ((with_reducible refine gate_callee (f := 14) rfl ?_); refine gC 41 Try.func14 _ (mincover_Set.calls bc aq _ _ ao _ _ ap a1 bf aX aY _ (csd ((Kd.V_reads' ah.1).2.2)) ((Kd.V_reads' ah.1).2.1) (csd ((Kd.V_reads' ai.1).2.2)) ((Kd.V_reads' ai.1).2.1) bW.1) ?_; rintro e cy ⟨bq, rfl, aM, hb⟩; refine ⟨_, rfl, ?_⟩; have ax := am (Kd.N_lower (Kd.N_mono (ok' := fun k_ => k_ ≠ ak ∧ k_ ≠ aa) aM (fun k_ hk_ => ⟨(Kd.freshB (g := ak) (o := .cells #[.string ay, .slice aE av.length aG, .slice aF aw.length aH] 25 (0, 0)) (by exact pbk ac.1) k_ hk_), (Kd.freshB (g := aa) (o := .cells #[.string aq, .slice aA ao.length ar, .slice aB ap.length au] 25 (0, 0)) (by exact pbk ab.1) k_ hk_)⟩)) (below_size pbg)); replace ah := am (Kd.V_elder' (pkv ah.1) (Kd.N_base aM) hb); replace ai := am (Kd.V_elder' (pkv ai.1) (Kd.N_base aM) hb); replace ac := bbh ac hb; replace ab := bbh ab hb; replace HB := bst hb; (try clear hb); (try clear aM); have ce := cf3 ab.1) | ((with_reducible refine gate_callee (f := 15) rfl ?_); refine gC 48 Try.func15 _ (r23_Set.calls bc aq _ _ ao _ _ ap a1 bg aZ a4 _ (csd ((Kd.V_reads' ah.1).2.2)) ((Kd.V_reads' ah.1).2.1) (csd ((Kd.V_reads' ai.1).2.2)) ((Kd.V_reads' ai.1).2.1) bX.1) ?_; rintro e cz ⟨ca, rfl, aM, hb⟩; refine ⟨_, rfl, ?_⟩; have aD := am (Kd.N_lower (Kd.N_mono (ok' := fun k_ => some k_ ≠ (bq : Value).ownBlock ∧ k_ ≠ ak ∧ k_ ≠ aa) aM (fun k_ hk_ => ⟨(Kd.fresh' (Kd.N_lt (pkn ax.1)) k_ hk_), (Kd.freshB (g := ak) (o := .cells #[.string ay, .slice aE av.length aG, .slice aF aw.length aH] 25 (0, 0)) (by exact pbk ac.1) k_ hk_), (Kd.freshB (g := aa) (o := .cells #[.string aq, .slice aA ao.length ar, .slice aB ap.length au] 25 (0, 0)) (by exact pbk ab.1) k_ hk_)⟩)) (below_size pbg)); replace ah := am (Kd.V_elder' (pkv ah.1) (Kd.N_base aM) hb); replace ai := am (Kd.V_elder' (pkv ai.1) (Kd.N_base aM) hb); replace ax := am (Kd.N_elder' (pkn ax.1) (Kd.N_base aM) hb); replace ac := bbh ac hb; replace ab := bbh ab hb; replace HB := bst hb; (try clear hb); (try clear aM); obtain ⟨b0, b2, bn⟩ := Kd.N_slice ax.1; subst bn; obtain ⟨b1, b3, bo⟩ := Kd.N_slice aD.1; subst bo) | ((with_reducible refine gate_callee (f := 16) rfl ?_); refine gC 54 Try.func16 _ (r04_Lists.calls bc _ _ bf _ _ bg true _ (csd ((Kd.N_reads' ax.1).2.2)) ((Kd.N_reads' ax.1).2.1) (csd ((Kd.N_reads' aD.1).2.2)) ((Kd.N_reads' aD.1).2.1) bY.1) ?_; rintro e w' ⟨rfl, ⟨nd, rfl⟩⟩; refine ⟨_, rfl, ?_⟩) | (go_at_call 13; (with_reducible refine (petrinetlaw23_exampleHolds.calls bc  a6 _ bZ.1).mono ?_); rintro e cA ⟨rfl, hb⟩; replace ah := vbw ah hb; replace ai := vbw ai hb; replace ax := nbw ax hb; replace aD := nbw aD hb; replace ac := bbh ac hb; replace ab := bbh ab hb; replace HB := bst hb; (try clear hb)))
 go_ret
 exact ⟨per, pbg⟩

end Go.Proofs.Ytaoogghpadifiaa.P
