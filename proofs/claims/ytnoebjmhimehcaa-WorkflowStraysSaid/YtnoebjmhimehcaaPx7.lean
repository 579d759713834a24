-- LAID BY OUR PROGRAM OVER THE PRINT (xprint.py, part.py): Lean checks it.
import Derived.Test.YtnoebjmhimehcaaPx0
import Derived.Test.YtnoebjmhimehcaaPx1
import Derived.Test.YtnoebjmhimehcaaPx6
import Derived.BigRegion
import Derived.Laws.EntriesVeiled
import Derived.RegionTactic
import Derived.Test.YtnoebjmhimehcaaCopyS
namespace Go.Proofs.Ytnoebjmhimehcaa.P
open Go.RowKit Go.Proofs.YtnoebjmhimehcaaW.PrintWords Go.Proofs.YtnoebjmhimehcaaW.PrintLast Go.Proofs.YtnoebjmhimehcaaW.PrintMore
attribute [local go_sem] max2_int min2_int max_two min_two max_three min_three max_four min_four   -- for this text's walks alone
set_option linter.unusedVariables false
set_option linter.unusedSimpArgs false

/-! ### workflow_Problems: function 18 -/
-- IMPORTS Derived.RegionTactic,Derived.BigRegion,Derived.Laws.EntriesVeiled
def workflow_Problems.l0 : Nat → List Bool → Int → Int → List (S50) → Option (List (S50) × Int)
 | 0, _, _, _, _ => none
 | k + 1, on, np, i, ds => if i < (on.length : Int) then (if 0 ≤ i then (if rdOf false on i = true then workflow_Problems.l0 k on np (wrap64 (i + 1)) ds else (if ds.length < 1000000 then workflow_Problems.l0 k on np (wrap64 (i + 1)) (ds ++ [if i < np then ⟨3, i⟩ else ⟨4, wrap64 (i - np)⟩]) else none)) else none) else some (ds, 0)
def workflow_Problems.f (k : Nat) (a0_0 : ByteArray) (l0_1 : List (S52)) (l0_2 : List (S48)) : Option (List (S50) × Int) :=
 (net_Check.f k a0_0 l0_1 l0_2).bind fun c => if c.1 = 0 then ((net_Plain.f k a0_0 l0_1 l0_2).bind fun p => if p = true then ((workflow_Source.f k a0_0 l0_1 l0_2).bind fun s => (workflow_Sink.f k a0_0 l0_1 l0_2).bind fun t => if s.2 = true then (if t.2 = true then ((workflow_onPath.f k a0_0 l0_1 l0_2 s.1 t.1).bind fun on => workflow_Problems.l0 k on (l0_1.length : Int) 0 (if s.1 = t.1 then [⟨3, s.1⟩] else [])) else some ([⟨2, 0⟩], 0)) else (if t.2 = true then some ([⟨1, 0⟩], 0) else some ([⟨1, 0⟩, ⟨2, 0⟩], 0))) else some ([], 12)) else some ([], c.1)
theorem workflow_Problems.mono_l : ∀ k y0 y1 y2 y3, LeO (workflow_Problems.l0 k y0 y1 y2 y3) (workflow_Problems.l0 (k + 1) y0 y1 y2 y3)
 | 0 => fun _ _ _ _ r h => by simp [workflow_Problems.l0] at h
 | k + 1 => by
  have ih0 := workflow_Problems.mono_l k
  intro y0 y1 y2 y3
  unfold workflow_Problems.l0
  repeat' first | exact ih0 _ _ _ _ | exact LeO.refl _ | exact LeO.none _ | refine LeO.ite ?_ ?_
theorem workflow_Problems.mono : ∀ a0 a1 a2 k, LeO (workflow_Problems.f k a0 a1 a2) (workflow_Problems.f (k + 1) a0 a1 a2) := by
 intro a0 a1 a2 k
 unfold workflow_Problems.f
 refine LeO.bind (net_Check.mono _ _ _ _) fun _ => LeO.ite (LeO.bind (net_Plain.mono _ _ _ _) fun _ => LeO.ite (LeO.bind (workflow_Source.mono _ _ _ _) fun _ => LeO.bind (workflow_Sink.mono _ _ _ _) fun _ => LeO.ite (LeO.ite (LeO.bind (workflow_onPath.mono _ _ _ _ _ _) fun _ => workflow_Problems.mono_l _ _ _ _ _) (LeO.refl _)) (LeO.refl _)) (LeO.refl _)) (LeO.refl _)

/-- The diagnoses so far, in a variable of the call's own, and the net in another one. -/
structure DInv (w0 w : World) (Bx Bo : Nat) (net : Array Value) (ds : List (S50)) : Prop where
 t : ∃ v, w.heap[Bo]? = some (.cells #[v] 32 (0, 0)) ∧ Kd.R k50 50 w w0.heap.size (fun _ => True) v ds
 B : Below w0.heap.size w0 w
 b : w0.heap.size ≤ Bo
 bx : w.heap[Bx]? = some (.cells net 25 (0, 0))
def DKeep (w0 w w1 : World) : Prop := ∀ v on, Kd.R Kd.bool 4 w w0.heap.size (fun _ => True) v on → Kd.R Kd.bool 4 w1 w0.heap.size (fun _ => True) v on
theorem DInv.below {w0 w w1 : World} {Bx Bo : Nat} {net : Array Value} {ds : List (S50)} (h : DInv w0 w Bx Bo net ds) (hb : Below w.heap.size w w1) : DInv w0 w1 Bx Bo net ds := by
 obtain ⟨⟨v, h1, h2⟩, B, b, bx⟩ := h
 exact ⟨⟨v, blk_below h1 hb, Kd.R_below h2 hb⟩, B.trans (hb.mono B.size), b, blk_below bx hb⟩
theorem DInv.push {w0 w w1 : World} {Bx Bo : Nat} {net : Array Value} {ds ds' : List (S50)} (h : DInv w0 w Bx Bo net ds) {v v1 : Value} (hT : Kd.R k50 50 w w0.heap.size (fun _ => True) v ds)
  (h1 : Kd.R k50 50 w1 w0.heap.size (fun _ => True) v1 ds') (hb : Below w0.heap.size w0 w1) (hg : w.grownBy w1 v.ownBlock) : (DInv w0 (w1.setCell ⟨Bo, 0, none⟩ v1) Bx Bo net ds' ∧ DKeep w0 w (w1.setCell ⟨Bo, 0, none⟩ v1)) ∧ w1.cell? ⟨Bo, 0, none⟩ ≠ none ∧ w1.frozen? ⟨Bo, 0, none⟩ = false := by
 obtain ⟨⟨vt, h3, h4⟩, B, b, bx⟩ := h
 have e3 := grown_blk h3 (Kd.R_typed hT) (by decide) hg
 have eb := grown_blk bx (Kd.R_typed hT) (by decide) hg
 refine ⟨⟨⟨⟨v1, one_setCell e3, Kd.R_set h1 e3 (by decide) _ _⟩, below_set hb b, b, blk_over eb (blk_apart eb e3 (by decide)) _⟩, fun u on ho => ?_⟩, by rw [cell_of_one e3]; simp, free_of_one e3⟩
 exact Kd.R_set (Kd.R_over' ho (Kd.R_typed hT) (by decide) hg) e3 (by decide) _ _
set_option maxHeartbeats 1000000 in
set_option maxRecDepth 100000 in
theorem tell_calls (w0 w : World) (Bx Bo : Nat) (net : Array Value) (ds : List (S50)) (x : S50) (h : DInv w0 w Bx Bo net ds) (hl : ds.length < 1000000) :
  Calls Try.prog 39 #[.int .i64 x.f0, .int .i64 x.f1, .pointer (some ⟨Bo, 0, none⟩)] w fun e w' => e = .returned (.tuple #[]) ∧ DInv w0 w' Bx Bo net (ds ++ [x]) ∧ DKeep w0 w w' := by
 have HV := Aside0.mk h
 obtain ⟨vt, ht1, ht2⟩ := h.t
 obtain ⟨At, ct, rfl⟩ := Kd.R_slice ht2
 have ct1 := cell_of_one ht1
 have HT := Aside0.mk ht2
 have HL := Aside0.mk hl
 clear h ht1 ht2 hl
 go_enter Try.func39, Try.ntmps39
 go_wp2_with (first
  | ((with_reducible refine gate_builtin (b := .append) (xs := #[.tmp 5, .tmp 9]) rfl ?_); at_builtin; refine Kd.R_append k50 (w0 := w0) w0.heap.size rfl (.tmp 5) (.tmp 9) 32 50 (.agg #[.int .i64 0, .int .i64 0]) 16 rfl Try.underlying32 info50 rfl (by decide) (by omega) (.slice At ds.length ct) ds x [.int .i64 x.f0, .int .i64 x.f1] (fun _ => True) (fun _ => False) rfl rfl ?aP (fun _ hk => hk.elim) ?aF ?aO ?aB ?aS ?aL ?_; (case aP => exact k50_mkM _ _ _ x); (case aF => exact (fun _ _ => trivial)); (case aO => exact HT.out); (case aB => exact HV.out.B); (case aS => exact HV.out.B.size); (case aL => have := HL.out; omega); intro v2 w2 ho hb hg hat; obtain ⟨A2, k2, rfl⟩ := Kd.R_slice ho; have HX := Aside0.mk (DInv.push HV.out HT.out ho hb hg); obtain ⟨c2, hc2⟩ := Option.ne_none_iff_exists'.mp HX.out.2.1; have hf2 := HX.out.2.2; clear ho hb hg hat))
 go_end0
 have x_ := HX.out.1
 rw [List.length_append] at x_
 exact ⟨rfl, x_.1, x_.2⟩
theorem tell_at (w0 w : World) (Bx Bo : Nat) (net : Array Value) (ds : List (S50)) (a b : Int) (h : DInv w0 w Bx Bo net ds) (hl : ds.length < 1000000) :
  Calls Try.prog 39 #[.int .i64 a, .int .i64 b, .pointer (some ⟨Bo, 0, none⟩)] w fun e w' => e = .returned (.tuple #[]) ∧ DInv w0 w' Bx Bo net (ds ++ [⟨a, b⟩]) ∧ DKeep w0 w w' := tell_calls w0 w Bx Bo net ds ⟨a, b⟩ h hl
theorem net3 {W : World} {B : Nat} {x y z : Value} (h : W.heap[B]? = some (.cells #[x, y, z] 25 (0, 0))) : W.cell? ⟨B, 0, none⟩ = some x ∧ W.cell? ⟨B, 1, none⟩ = some y ∧ W.cell? ⟨B, 2, none⟩ = some z := ⟨(blk_cell h 0).trans rfl, (blk_cell h 1).trans rfl, (blk_cell h 2).trans rfl⟩
set_option maxHeartbeats 8000000 in
set_option maxRecDepth 100000 in
theorem workflow_Problems.calls (k : Nat) (a0_0 : ByteArray) (A0_1 : Option Addr) (c0_1 : Nat) (l0_1 : List (S52)) (A0_2 : Option Addr) (c0_2 : Nat) (l0_2 : List (S48)) (r1 : List (S50)) (r2 : Int) (w : World) (hr0_1 : Kd.C k52 w A0_1 l0_1.length l0_1) (hc0_1 : l0_1.length ≤ c0_1) (hr0_2 : Kd.C k48 w A0_2 l0_2.length l0_2) (hc0_2 : l0_2.length ≤ c0_2) (h : workflow_Problems.f k a0_0 l0_1 l0_2 = some (r1, r2)) :
  Calls Try.prog 18 #[.agg #[.string a0_0, .slice A0_1 l0_1.length c0_1, .slice A0_2 l0_2.length c0_2]] w fun e w' => ∃ v0_ : Value, e = .returned (.tuple #[v0_, .int .i64 r2]) ∧ Kd.R k50 50 w' w.heap.size (fun _ => True) v0_ r1 ∧ Below w.heap.size w w' := by
 have hu1 := Try.underlying25
 have hu2 := Try.underlying60
 have hmf : ∀ (fn : Fn) (first cap : Array Value) (w : World), (Instr.makeFunc fn first cap).run Try.prog w = .ok (.func fn first cap) w := fun _ _ _ _ => rfl
 have HR0_1 := am hr0_1
 have HC0_1 := am hc0_1
 have HR0_2 := am hr0_2
 have HC0_2 := am hc0_2
 have HB := am (Below.refl w.heap.size w)
 clear hr0_1 hc0_1 hr0_2 hc0_2
 unfold workflow_Problems.f at h
 obtain ⟨⟨t212, t213⟩, hq, h⟩ := Option.bind_eq_some_iff.mp h
 have A2 := am hq
 clear hq
 dsimp only at h
 by_cases c3 : t212 = 0
 case neg =>
  rw [if_neg c3] at h
  have c3b0 : (t212 == 0) = false := beq_eq_false_iff_ne.mpr c3
  have c3b1 : (t212 != 0) = true := bne_iff_ne.mpr c3
  simp only [Option.some.injEq, Prod.mk.injEq] at h
  obtain ⟨rfl, rfl⟩ := h
  go_enter Try.func18, Try.ntmps18
  have fl_ := trivial
  iterate 3 (try ((first | clear fl_ | go_step3); go_wp2_with (first | ((with_reducible refine gate_dst (N := 1) rfl ?_); refine box_ev (N := 1) (cs := #[.string a0_0, .slice A0_1 l0_1.length c0_1, .slice A0_2 l0_2.length c0_2]) (t := 25) ?_; intro gb211 hg w6 hbox hb; have BK211 := am hbox; have GW211 := gwl hg; replace HB := bsl hb; clear hb hbox hg; obtain ⟨hcz7_0, hcz7_1, hcz7_2, hfz7_0, hfz7_1, hfz7_2⟩ := cf3 BK211.1) | (go_at_call 37; (with_reducible refine (net_Check.calls k a0_0 _ _ l0_1 _ _ l0_2 t212 t213 _ ?side1 ?side2 ?side3 ?side4 A2.1).mono ?_); (case side1 => exact csb HR0_1 HB); (case side2 => exact HC0_1.1); (case side3 => exact csb HR0_2 HB); (case side4 => exact HC0_2.1); rintro e w8 ⟨rfl, hb⟩; replace BK211 := bbh BK211 hb; replace HB := bst hb; (try clear hb); (try clear hb2); (try clear hk); (try clear hi)) | ((with_reducible refine gate_dst (N := 4) rfl ?_); refine box_ev (N := 4) (cs := #[.int .i64 0, .int .i64 0]) (t := 60) ?_; intro gb214 hg w9 hbox hb; have BK214 := am hbox; have GW214 := gwb hg; have GE214 := GW214; have NB211_214 := nlt hg BK211; have NB214_211 := ngt hg BK211; replace BK211 := bbh BK211 hb; replace HB := bst hb; clear hb hbox hg; have hnb10 := NB214_211.1; have hnc10 := NB211_214.1; obtain ⟨hcz11_0, hcz11_1, hfz11_0, hfz11_1⟩ := cf2 BK214.1; obtain ⟨hcz12_0, hcz12_1, hcz12_2, hfz12_0, hfz12_1, hfz12_2⟩ := cf3 BK211.1))))
  have BF := am (show ((w9.setCell ⟨gb214, 0, none⟩ (.int .i64 t212)).setCell ⟨gb214, 1, none⟩ (.int .i64 t213)).heap[gb214]? = some (.cells #[.int .i64 t212, .int .i64 t213] 60 (0, 0)) from blk_put (cs := #[.int .i64 t212, .int .i64 0]) (blk_put (cs := #[.int .i64 0, .int .i64 0]) BK214.1 0 _ rfl) 1 _ rfl)
  have HB2 := am (show Below w.heap.size w ((w9.setCell ⟨gb214, 0, none⟩ (.int .i64 t212)).setCell ⟨gb214, 1, none⟩ (.int .i64 t213)) from below_set (below_set HB.1 GW214.1) GW214.1)
  clear hcz11_0 hcz11_1 hfz11_0 hfz11_1 hcz12_0 hcz12_1 hcz12_2 hfz12_0 hfz12_1 hfz12_2
  generalize ((w9.setCell ⟨gb214, 0, none⟩ (.int .i64 t212)).setCell ⟨gb214, 1, none⟩ (.int .i64 t213)) = w10 at BF HB2 ⊢
  obtain ⟨fa0, fa1, fb0, fb1⟩ := cf2 BF.1
  go_quiet (fail)
  try go_wp2
  iterate 2 (try (go_step3; go_wp2))
  (try rw [Exit.noGoto_ret])
  go_ret2
  exact ⟨_, per, knl, pw_below_drewN HB2.1 _⟩
 rw [if_pos c3] at h
 have c3b0 : (t212 == 0) = true := beq_iff_eq.mpr c3
 have c3b1 : (t212 != 0) = false := bne_eq_false_iff_eq.mpr c3
 clear c3
 obtain ⟨p, hp, h⟩ := Option.bind_eq_some_iff.mp h
 have A4 := am hp
 clear hp
 cases p with
 | false =>
  rw [if_neg Bool.false_ne_true] at h
  simp only [Option.some.injEq, Prod.mk.injEq] at h
  obtain ⟨rfl, rfl⟩ := h
  go_enter Try.func18, Try.ntmps18
  have fl_ := trivial
  iterate 3 (try ((first | clear fl_ | go_step3); go_wp2_with (first | ((with_reducible refine gate_dst (N := 1) rfl ?_); refine box_ev (N := 1) (cs := #[.string a0_0, .slice A0_1 l0_1.length c0_1, .slice A0_2 l0_2.length c0_2]) (t := 25) ?_; intro gb211 hg w6 hbox hb; have BK211 := am hbox; have GW211 := gwl hg; replace HB := bsl hb; clear hb hbox hg; obtain ⟨hcz7_0, hcz7_1, hcz7_2, hfz7_0, hfz7_1, hfz7_2⟩ := cf3 BK211.1) | (go_at_call 37; (with_reducible refine (net_Check.calls k a0_0 _ _ l0_1 _ _ l0_2 t212 t213 _ ?side1 ?side2 ?side3 ?side4 A2.1).mono ?_); (case side1 => exact csb HR0_1 HB); (case side2 => exact HC0_1.1); (case side3 => exact csb HR0_2 HB); (case side4 => exact HC0_2.1); rintro e w8 ⟨rfl, hb⟩; replace BK211 := bbh BK211 hb; replace HB := bst hb; (try clear hb); (try clear hb2); (try clear hk); (try clear hi)) | ((with_reducible refine gate_dst (N := 4) rfl ?_); refine box_ev (N := 4) (cs := #[.int .i64 0, .int .i64 0]) (t := 60) ?_; intro gb214 hg w9 hbox hb; have BK214 := am hbox; have GW214 := gwb hg; have GE214 := GW214; have NB211_214 := nlt hg BK211; have NB214_211 := ngt hg BK211; replace BK211 := bbh BK211 hb; replace HB := bst hb; clear hb hbox hg; have hnb10 := NB214_211.1; have hnc10 := NB211_214.1; obtain ⟨hcz11_0, hcz11_1, hfz11_0, hfz11_1⟩ := cf2 BK214.1; obtain ⟨hcz12_0, hcz12_1, hcz12_2, hfz12_0, hfz12_1, hfz12_2⟩ := cf3 BK211.1) | (go_at_call 38; (with_reducible refine (net_Plain.calls k a0_0 _ _ l0_1 _ _ l0_2 false _ ?side1 ?side2 ?side3 ?side4 A4.1).mono ?_); (case side1 => exact Kd.C_below HR0_1.1 pbg); (case side2 => exact HC0_1.1); (case side3 => exact Kd.C_below HR0_2.1 pbg); (case side4 => exact HC0_2.1); rintro e w13 ⟨rfl, hb⟩; replace BK211 := am (blk_below (g := gb211) (o := .cells #[.string a0_0, .slice A0_1 l0_1.length c0_1, .slice A0_2 l0_2.length c0_2] 25 (0, 0)) (by (with_reducible repeat (first | refine blk_drewN ?_ _ | refine blk_drew ?_ | refine blk_alloc ?_ _)); refine bf2 ?_ NB211_214.1; exact pbk BK211.1) hb); replace HB := bst hb; (try clear BK214); (try clear hb); (try clear hb2); (try clear hk); (try clear hi)))))
  (try rw [Exit.noGoto_ret])
  go_ret2
  exact ⟨_, per, knl, pbg⟩
 | true =>
  rw [if_pos rfl] at h
  obtain ⟨⟨t1, b1⟩, h1, h⟩ := Option.bind_eq_some_iff.mp h
  have A5 := am h1
  obtain ⟨⟨t2, b2⟩, h2, h⟩ := Option.bind_eq_some_iff.mp h
  have A6 := am h2
  clear h1 h2
  dsimp only at h
  cases b1 with
  | false =>
   rw [if_neg Bool.false_ne_true] at h
   cases b2 with
   | false =>
    rw [if_neg Bool.false_ne_true] at h
    simp only [Option.some.injEq, Prod.mk.injEq] at h
    obtain ⟨rfl, rfl⟩ := h
    go_enter Try.func18, Try.ntmps18
    have fl_ := trivial
    iterate 3 (try ((first | clear fl_ | go_step3); go_wp2_with (first | ((with_reducible refine gate_dst (N := 1) rfl ?_); refine box_ev (N := 1) (cs := #[.string a0_0, .slice A0_1 l0_1.length c0_1, .slice A0_2 l0_2.length c0_2]) (t := 25) ?_; intro gb211 hg w6 hbox hb; have BK211 := am hbox; have GW211 := gwl hg; replace HB := bsl hb; clear hb hbox hg; obtain ⟨hcz7_0, hcz7_1, hcz7_2, hfz7_0, hfz7_1, hfz7_2⟩ := cf3 BK211.1) | (go_at_call 37; (with_reducible refine (net_Check.calls k a0_0 _ _ l0_1 _ _ l0_2 t212 t213 _ ?side1 ?side2 ?side3 ?side4 A2.1).mono ?_); (case side1 => exact csb HR0_1 HB); (case side2 => exact HC0_1.1); (case side3 => exact csb HR0_2 HB); (case side4 => exact HC0_2.1); rintro e w8 ⟨rfl, hb⟩; replace BK211 := bbh BK211 hb; replace HB := bst hb; (try clear hb); (try clear hb2); (try clear hk); (try clear hi)) | ((with_reducible refine gate_dst (N := 4) rfl ?_); refine box_ev (N := 4) (cs := #[.int .i64 0, .int .i64 0]) (t := 60) ?_; intro gb214 hg w9 hbox hb; have BK214 := am hbox; have GW214 := gwb hg; have GE214 := GW214; have NB211_214 := nlt hg BK211; have NB214_211 := ngt hg BK211; replace BK211 := bbh BK211 hb; replace HB := bst hb; clear hb hbox hg; have hnb10 := NB214_211.1; have hnc10 := NB211_214.1; obtain ⟨hcz11_0, hcz11_1, hfz11_0, hfz11_1⟩ := cf2 BK214.1; obtain ⟨hcz12_0, hcz12_1, hcz12_2, hfz12_0, hfz12_1, hfz12_2⟩ := cf3 BK211.1) | (go_at_call 38; (with_reducible refine (net_Plain.calls k a0_0 _ _ l0_1 _ _ l0_2 true _ ?side1 ?side2 ?side3 ?side4 A4.1).mono ?_); (case side1 => exact Kd.C_below HR0_1.1 pbg); (case side2 => exact HC0_1.1); (case side3 => exact Kd.C_below HR0_2.1 pbg); (case side4 => exact HC0_2.1); rintro e w13 ⟨rfl, hb⟩; replace BK211 := am (blk_below (g := gb211) (o := .cells #[.string a0_0, .slice A0_1 l0_1.length c0_1, .slice A0_2 l0_2.length c0_2] 25 (0, 0)) (by (with_reducible repeat (first | refine blk_drewN ?_ _ | refine blk_drew ?_ | refine blk_alloc ?_ _)); refine bf2 ?_ NB211_214.1; exact pbk BK211.1) hb); replace HB := bst hb; (try clear BK214); (try clear hb); (try clear hb2); (try clear hk); (try clear hi); have HX := am (show DInv w (w13.alloc (.cells #[.slice none 0 0] 32)) gb211 w13.heap.size #[.string a0_0, .slice A0_1 l0_1.length c0_1, .slice A0_2 l0_2.length c0_2] [] from ⟨⟨.slice none 0 0, alloc_new _ _, Kd.R_nil _ _ _ _ _⟩, below_alloc HB.out _, HB.out.size, blk_below BK211.out (below_alloc (Below.refl _ _) _)⟩); (try clear hcz7_0 hcz7_1 hcz7_2 hfz7_0 hfz7_1 hfz7_2 hcz11_0 hcz11_1 hfz11_0 hfz11_1 hcz12_0 hcz12_1 hcz12_2 hfz12_0 hfz12_1 hfz12_2); (try clear cx0 cx1 cx2); obtain ⟨cx0, cx1, cx2, _, _, _⟩ := cf3 HX.out.bx) | (go_at_call 12; refine (workflow_Source.calls k _ _ _ _ _ _ _ _ _ _ (Kd.C_below HR0_1.1 HX.1.B) HC0_1.1 (Kd.C_below HR0_2.1 HX.1.B) HC0_2.1 A5.1).mono ?_; rintro e w4 ⟨rfl, hb⟩; replace HX := am (HX.1.below hb); clear hb; (try clear cx0 cx1 cx2); obtain ⟨cx0, cx1, cx2, _, _, _⟩ := cf3 HX.out.bx) | (go_at_call 14; refine (workflow_Sink.calls k _ _ _ _ _ _ _ _ _ _ (Kd.C_below HR0_1.1 HX.1.B) HC0_1.1 (Kd.C_below HR0_2.1 HX.1.B) HC0_2.1 A6.1).mono ?_; rintro e w4 ⟨rfl, hb⟩; replace HX := am (HX.1.below hb); clear hb; (try clear cx0 cx1 cx2); obtain ⟨cx0, cx1, cx2, _, _, _⟩ := cf3 HX.out.bx) | (go_at_call 39; refine (tell_at w _ _ _ _ _ _ _ HX.out (by simp)).mono ?_; rintro e w7 ⟨rfl, hx, hk⟩; replace HX := am hx; clear hx hk; (try clear cx0 cx1 cx2); obtain ⟨cx0, cx1, cx2, _, _, _⟩ := cf3 HX.out.bx; (try clear HT ct1); obtain ⟨vt, ht1, ht2⟩ := HX.out.t; have ct1 := cell_of_one ht1; have HT := am ht2; clear ht1 ht2))))
    (try rw [Exit.noGoto_ret])
    go_ret2
    exact ⟨_, per, HT.out, HX.out.B⟩
   | true =>
    rw [if_pos rfl] at h
    simp only [Option.some.injEq, Prod.mk.injEq] at h
    obtain ⟨rfl, rfl⟩ := h
    go_enter Try.func18, Try.ntmps18
    have fl_ := trivial
    iterate 3 (try ((first | clear fl_ | go_step3); go_wp2_with (first | ((with_reducible refine gate_dst (N := 1) rfl ?_); refine box_ev (N := 1) (cs := #[.string a0_0, .slice A0_1 l0_1.length c0_1, .slice A0_2 l0_2.length c0_2]) (t := 25) ?_; intro gb211 hg w6 hbox hb; have BK211 := am hbox; have GW211 := gwl hg; replace HB := bsl hb; clear hb hbox hg; obtain ⟨hcz7_0, hcz7_1, hcz7_2, hfz7_0, hfz7_1, hfz7_2⟩ := cf3 BK211.1) | (go_at_call 37; (with_reducible refine (net_Check.calls k a0_0 _ _ l0_1 _ _ l0_2 t212 t213 _ ?side1 ?side2 ?side3 ?side4 A2.1).mono ?_); (case side1 => exact csb HR0_1 HB); (case side2 => exact HC0_1.1); (case side3 => exact csb HR0_2 HB); (case side4 => exact HC0_2.1); rintro e w8 ⟨rfl, hb⟩; replace BK211 := bbh BK211 hb; replace HB := bst hb; (try clear hb); (try clear hb2); (try clear hk); (try clear hi)) | ((with_reducible refine gate_dst (N := 4) rfl ?_); refine box_ev (N := 4) (cs := #[.int .i64 0, .int .i64 0]) (t := 60) ?_; intro gb214 hg w9 hbox hb; have BK214 := am hbox; have GW214 := gwb hg; have GE214 := GW214; have NB211_214 := nlt hg BK211; have NB214_211 := ngt hg BK211; replace BK211 := bbh BK211 hb; replace HB := bst hb; clear hb hbox hg; have hnb10 := NB214_211.1; have hnc10 := NB211_214.1; obtain ⟨hcz11_0, hcz11_1, hfz11_0, hfz11_1⟩ := cf2 BK214.1; obtain ⟨hcz12_0, hcz12_1, hcz12_2, hfz12_0, hfz12_1, hfz12_2⟩ := cf3 BK211.1) | (go_at_call 38; (with_reducible refine (net_Plain.calls k a0_0 _ _ l0_1 _ _ l0_2 true _ ?side1 ?side2 ?side3 ?side4 A4.1).mono ?_); (case side1 => exact Kd.C_below HR0_1.1 pbg); (case side2 => exact HC0_1.1); (case side3 => exact Kd.C_below HR0_2.1 pbg); (case side4 => exact HC0_2.1); rintro e w13 ⟨rfl, hb⟩; replace BK211 := am (blk_below (g := gb211) (o := .cells #[.string a0_0, .slice A0_1 l0_1.length c0_1, .slice A0_2 l0_2.length c0_2] 25 (0, 0)) (by (with_reducible repeat (first | refine blk_drewN ?_ _ | refine blk_drew ?_ | refine blk_alloc ?_ _)); refine bf2 ?_ NB211_214.1; exact pbk BK211.1) hb); replace HB := bst hb; (try clear BK214); (try clear hb); (try clear hb2); (try clear hk); (try clear hi); have HX := am (show DInv w (w13.alloc (.cells #[.slice none 0 0] 32)) gb211 w13.heap.size #[.string a0_0, .slice A0_1 l0_1.length c0_1, .slice A0_2 l0_2.length c0_2] [] from ⟨⟨.slice none 0 0, alloc_new _ _, Kd.R_nil _ _ _ _ _⟩, below_alloc HB.out _, HB.out.size, blk_below BK211.out (below_alloc (Below.refl _ _) _)⟩); (try clear hcz7_0 hcz7_1 hcz7_2 hfz7_0 hfz7_1 hfz7_2 hcz11_0 hcz11_1 hfz11_0 hfz11_1 hcz12_0 hcz12_1 hcz12_2 hfz12_0 hfz12_1 hfz12_2); (try clear cx0 cx1 cx2); obtain ⟨cx0, cx1, cx2, _, _, _⟩ := cf3 HX.out.bx) | (go_at_call 12; refine (workflow_Source.calls k _ _ _ _ _ _ _ _ _ _ (Kd.C_below HR0_1.1 HX.1.B) HC0_1.1 (Kd.C_below HR0_2.1 HX.1.B) HC0_2.1 A5.1).mono ?_; rintro e w4 ⟨rfl, hb⟩; replace HX := am (HX.1.below hb); clear hb; (try clear cx0 cx1 cx2); obtain ⟨cx0, cx1, cx2, _, _, _⟩ := cf3 HX.out.bx) | (go_at_call 14; refine (workflow_Sink.calls k _ _ _ _ _ _ _ _ _ _ (Kd.C_below HR0_1.1 HX.1.B) HC0_1.1 (Kd.C_below HR0_2.1 HX.1.B) HC0_2.1 A6.1).mono ?_; rintro e w4 ⟨rfl, hb⟩; replace HX := am (HX.1.below hb); clear hb; (try clear cx0 cx1 cx2); obtain ⟨cx0, cx1, cx2, _, _, _⟩ := cf3 HX.out.bx) | (go_at_call 39; refine (tell_at w _ _ _ _ _ _ _ HX.out (by simp)).mono ?_; rintro e w7 ⟨rfl, hx, hk⟩; replace HX := am hx; clear hx hk; (try clear cx0 cx1 cx2); obtain ⟨cx0, cx1, cx2, _, _, _⟩ := cf3 HX.out.bx; (try clear HT ct1); obtain ⟨vt, ht1, ht2⟩ := HX.out.t; have ct1 := cell_of_one ht1; have HT := am ht2; clear ht1 ht2))))
    (try rw [Exit.noGoto_ret])
    go_ret2
    exact ⟨_, per, HT.out, HX.out.B⟩
  | true =>
   rw [if_pos rfl] at h
   cases b2 with
   | false =>
    rw [if_neg Bool.false_ne_true] at h
    simp only [Option.some.injEq, Prod.mk.injEq] at h
    obtain ⟨rfl, rfl⟩ := h
    go_enter Try.func18, Try.ntmps18
    have fl_ := trivial
    iterate 3 (try ((first | clear fl_ | go_step3); go_wp2_with (first | ((with_reducible refine gate_dst (N := 1) rfl ?_); refine box_ev (N := 1) (cs := #[.string a0_0, .slice A0_1 l0_1.length c0_1, .slice A0_2 l0_2.length c0_2]) (t := 25) ?_; intro gb211 hg w6 hbox hb; have BK211 := am hbox; have GW211 := gwl hg; replace HB := bsl hb; clear hb hbox hg; obtain ⟨hcz7_0, hcz7_1, hcz7_2, hfz7_0, hfz7_1, hfz7_2⟩ := cf3 BK211.1) | (go_at_call 37; (with_reducible refine (net_Check.calls k a0_0 _ _ l0_1 _ _ l0_2 t212 t213 _ ?side1 ?side2 ?side3 ?side4 A2.1).mono ?_); (case side1 => exact csb HR0_1 HB); (case side2 => exact HC0_1.1); (case side3 => exact csb HR0_2 HB); (case side4 => exact HC0_2.1); rintro e w8 ⟨rfl, hb⟩; replace BK211 := bbh BK211 hb; replace HB := bst hb; (try clear hb); (try clear hb2); (try clear hk); (try clear hi)) | ((with_reducible refine gate_dst (N := 4) rfl ?_); refine box_ev (N := 4) (cs := #[.int .i64 0, .int .i64 0]) (t := 60) ?_; intro gb214 hg w9 hbox hb; have BK214 := am hbox; have GW214 := gwb hg; have GE214 := GW214; have NB211_214 := nlt hg BK211; have NB214_211 := ngt hg BK211; replace BK211 := bbh BK211 hb; replace HB := bst hb; clear hb hbox hg; have hnb10 := NB214_211.1; have hnc10 := NB211_214.1; obtain ⟨hcz11_0, hcz11_1, hfz11_0, hfz11_1⟩ := cf2 BK214.1; obtain ⟨hcz12_0, hcz12_1, hcz12_2, hfz12_0, hfz12_1, hfz12_2⟩ := cf3 BK211.1) | (go_at_call 38; (with_reducible refine (net_Plain.calls k a0_0 _ _ l0_1 _ _ l0_2 true _ ?side1 ?side2 ?side3 ?side4 A4.1).mono ?_); (case side1 => exact Kd.C_below HR0_1.1 pbg); (case side2 => exact HC0_1.1); (case side3 => exact Kd.C_below HR0_2.1 pbg); (case side4 => exact HC0_2.1); rintro e w13 ⟨rfl, hb⟩; replace BK211 := am (blk_below (g := gb211) (o := .cells #[.string a0_0, .slice A0_1 l0_1.length c0_1, .slice A0_2 l0_2.length c0_2] 25 (0, 0)) (by (with_reducible repeat (first | refine blk_drewN ?_ _ | refine blk_drew ?_ | refine blk_alloc ?_ _)); refine bf2 ?_ NB211_214.1; exact pbk BK211.1) hb); replace HB := bst hb; (try clear BK214); (try clear hb); (try clear hb2); (try clear hk); (try clear hi); have HX := am (show DInv w (w13.alloc (.cells #[.slice none 0 0] 32)) gb211 w13.heap.size #[.string a0_0, .slice A0_1 l0_1.length c0_1, .slice A0_2 l0_2.length c0_2] [] from ⟨⟨.slice none 0 0, alloc_new _ _, Kd.R_nil _ _ _ _ _⟩, below_alloc HB.out _, HB.out.size, blk_below BK211.out (below_alloc (Below.refl _ _) _)⟩); (try clear hcz7_0 hcz7_1 hcz7_2 hfz7_0 hfz7_1 hfz7_2 hcz11_0 hcz11_1 hfz11_0 hfz11_1 hcz12_0 hcz12_1 hcz12_2 hfz12_0 hfz12_1 hfz12_2); (try clear cx0 cx1 cx2); obtain ⟨cx0, cx1, cx2, _, _, _⟩ := cf3 HX.out.bx) | (go_at_call 12; refine (workflow_Source.calls k _ _ _ _ _ _ _ _ _ _ (Kd.C_below HR0_1.1 HX.1.B) HC0_1.1 (Kd.C_below HR0_2.1 HX.1.B) HC0_2.1 A5.1).mono ?_; rintro e w4 ⟨rfl, hb⟩; replace HX := am (HX.1.below hb); clear hb; (try clear cx0 cx1 cx2); obtain ⟨cx0, cx1, cx2, _, _, _⟩ := cf3 HX.out.bx) | (go_at_call 14; refine (workflow_Sink.calls k _ _ _ _ _ _ _ _ _ _ (Kd.C_below HR0_1.1 HX.1.B) HC0_1.1 (Kd.C_below HR0_2.1 HX.1.B) HC0_2.1 A6.1).mono ?_; rintro e w4 ⟨rfl, hb⟩; replace HX := am (HX.1.below hb); clear hb; (try clear cx0 cx1 cx2); obtain ⟨cx0, cx1, cx2, _, _, _⟩ := cf3 HX.out.bx) | (go_at_call 39; refine (tell_at w _ _ _ _ _ _ _ HX.out (by simp)).mono ?_; rintro e w7 ⟨rfl, hx, hk⟩; replace HX := am hx; clear hx hk; (try clear cx0 cx1 cx2); obtain ⟨cx0, cx1, cx2, _, _, _⟩ := cf3 HX.out.bx; (try clear HT ct1); obtain ⟨vt, ht1, ht2⟩ := HX.out.t; have ct1 := cell_of_one ht1; have HT := am ht2; clear ht1 ht2))))
    (try rw [Exit.noGoto_ret])
    go_ret2
    exact ⟨_, per, HT.out, HX.out.B⟩
   | true =>
    rw [if_pos rfl] at h
    obtain ⟨on, h3, h⟩ := Option.bind_eq_some_iff.mp h
    have A7 := am h3
    clear h3
    by_cases c6 : t1 = t2
    case pos =>
     rw [if_pos c6] at h
     have c6b0 : (t1 == t2) = true := beq_iff_eq.mpr c6
     clear c6
     have HL0 := am h
     clear h
     go_enter Try.func18, Try.ntmps18
     have fl_ := trivial
     iterate 3 (try ((first | clear fl_ | go_step3); go_wp2_with (first | ((with_reducible refine gate_dst (N := 1) rfl ?_); refine box_ev (N := 1) (cs := #[.string a0_0, .slice A0_1 l0_1.length c0_1, .slice A0_2 l0_2.length c0_2]) (t := 25) ?_; intro gb211 hg w6 hbox hb; have BK211 := am hbox; have GW211 := gwl hg; replace HB := bsl hb; clear hb hbox hg; obtain ⟨hcz7_0, hcz7_1, hcz7_2, hfz7_0, hfz7_1, hfz7_2⟩ := cf3 BK211.1) | (go_at_call 37; (with_reducible refine (net_Check.calls k a0_0 _ _ l0_1 _ _ l0_2 t212 t213 _ ?side1 ?side2 ?side3 ?side4 A2.1).mono ?_); (case side1 => exact csb HR0_1 HB); (case side2 => exact HC0_1.1); (case side3 => exact csb HR0_2 HB); (case side4 => exact HC0_2.1); rintro e w8 ⟨rfl, hb⟩; replace BK211 := bbh BK211 hb; replace HB := bst hb; (try clear hb); (try clear hb2); (try clear hk); (try clear hi)) | ((with_reducible refine gate_dst (N := 4) rfl ?_); refine box_ev (N := 4) (cs := #[.int .i64 0, .int .i64 0]) (t := 60) ?_; intro gb214 hg w9 hbox hb; have BK214 := am hbox; have GW214 := gwb hg; have GE214 := GW214; have NB211_214 := nlt hg BK211; have NB214_211 := ngt hg BK211; replace BK211 := bbh BK211 hb; replace HB := bst hb; clear hb hbox hg; have hnb10 := NB214_211.1; have hnc10 := NB211_214.1; obtain ⟨hcz11_0, hcz11_1, hfz11_0, hfz11_1⟩ := cf2 BK214.1; obtain ⟨hcz12_0, hcz12_1, hcz12_2, hfz12_0, hfz12_1, hfz12_2⟩ := cf3 BK211.1) | (go_at_call 38; (with_reducible refine (net_Plain.calls k a0_0 _ _ l0_1 _ _ l0_2 true _ ?side1 ?side2 ?side3 ?side4 A4.1).mono ?_); (case side1 => exact Kd.C_below HR0_1.1 pbg); (case side2 => exact HC0_1.1); (case side3 => exact Kd.C_below HR0_2.1 pbg); (case side4 => exact HC0_2.1); rintro e w13 ⟨rfl, hb⟩; replace BK211 := am (blk_below (g := gb211) (o := .cells #[.string a0_0, .slice A0_1 l0_1.length c0_1, .slice A0_2 l0_2.length c0_2] 25 (0, 0)) (by (with_reducible repeat (first | refine blk_drewN ?_ _ | refine blk_drew ?_ | refine blk_alloc ?_ _)); refine bf2 ?_ NB211_214.1; exact pbk BK211.1) hb); replace HB := bst hb; (try clear BK214); (try clear hb); (try clear hb2); (try clear hk); (try clear hi); have HX := am (show DInv w (w13.alloc (.cells #[.slice none 0 0] 32)) gb211 w13.heap.size #[.string a0_0, .slice A0_1 l0_1.length c0_1, .slice A0_2 l0_2.length c0_2] [] from ⟨⟨.slice none 0 0, alloc_new _ _, Kd.R_nil _ _ _ _ _⟩, below_alloc HB.out _, HB.out.size, blk_below BK211.out (below_alloc (Below.refl _ _) _)⟩); (try clear hcz7_0 hcz7_1 hcz7_2 hfz7_0 hfz7_1 hfz7_2 hcz11_0 hcz11_1 hfz11_0 hfz11_1 hcz12_0 hcz12_1 hcz12_2 hfz12_0 hfz12_1 hfz12_2); (try clear cx0 cx1 cx2); obtain ⟨cx0, cx1, cx2, _, _, _⟩ := cf3 HX.out.bx) | (go_at_call 12; refine (workflow_Source.calls k _ _ _ _ _ _ _ _ _ _ (Kd.C_below HR0_1.1 HX.1.B) HC0_1.1 (Kd.C_below HR0_2.1 HX.1.B) HC0_2.1 A5.1).mono ?_; rintro e w4 ⟨rfl, hb⟩; replace HX := am (HX.1.below hb); clear hb; (try clear cx0 cx1 cx2); obtain ⟨cx0, cx1, cx2, _, _, _⟩ := cf3 HX.out.bx) | (go_at_call 14; refine (workflow_Sink.calls k _ _ _ _ _ _ _ _ _ _ (Kd.C_below HR0_1.1 HX.1.B) HC0_1.1 (Kd.C_below HR0_2.1 HX.1.B) HC0_2.1 A6.1).mono ?_; rintro e w4 ⟨rfl, hb⟩; replace HX := am (HX.1.below hb); clear hb; (try clear cx0 cx1 cx2); obtain ⟨cx0, cx1, cx2, _, _, _⟩ := cf3 HX.out.bx) | (go_at_call 39; refine (tell_at w _ _ _ _ _ _ _ HX.out (by simp)).mono ?_; rintro e w7 ⟨rfl, hx, hk⟩; replace HX := am hx; clear hx hk; (try clear cx0 cx1 cx2); obtain ⟨cx0, cx1, cx2, _, _, _⟩ := cf3 HX.out.bx; (try clear HT ct1); obtain ⟨vt, ht1, ht2⟩ := HX.out.t; have ct1 := cell_of_one ht1; have HT := am ht2; clear ht1 ht2) | (go_at_call 40; refine (workflow_onPath.calls k _ _ _ _ _ _ _ _ _ _ _ (Kd.C_below HR0_1.1 HX.1.B) HC0_1.1 (Kd.C_below HR0_2.1 HX.1.B) HC0_2.1 A7.1).mono ?_; rintro e w4 ⟨vo, rfl, ho, hb⟩; have HO := am (Kd.R_lower ho HX.1.B.size); replace HX := am (HX.1.below hb); clear hb ho; (try clear cx0 cx1 cx2); obtain ⟨cx0, cx1, cx2, _, _, _⟩ := cf3 HX.out.bx; obtain ⟨Ao, co, rfl⟩ := Kd.R_slice HO.out))))
     go_loopg [60] k (fun kq v60 w' => ∃ (i : Int) (ds : List (S50)), v60 = .int .i64 i ∧ Aside0 (workflow_Problems.l0 kq on (l0_1.length : Int) i ds = some (r1, r2)) ∧ Aside0 (kq ≤ k) ∧ Aside0 (DInv w w' gb211 w13.heap.size #[.string a0_0, .slice A0_1 l0_1.length c0_1, .slice A0_2 l0_2.length c0_2] ds) ∧ Aside0 (Kd.R Kd.bool 4 w' w.heap.size (fun _ => True) (.slice Ao on.length co) on))
     case atStart => exact ⟨0, [⟨3, t1⟩], rfl, HL0, ⟨Nat.le_refl _⟩, HX, HO⟩
     clear HL0 HX HO
     obtain ⟨i, ds, rfl, HA, HK, HX, HO⟩ := hrel
     obtain _ | k1 := gk
     ·exact absurd HA.out (by simp [workflow_Problems.l0])
     have H := HA.out
     clear HA
     simp only [workflow_Problems.l0] at H
     obtain ⟨cx0, cx1, cx2, _, _, _⟩ := cf3 HX.out.bx
     by_cases c8 : i < (on.length : Int)
     case neg =>
      rw [if_neg c8] at H
      have c8b0 : decide (i < (on.length : Int)) = false := decide_eq_false c8
      clear c8
      simp only [Option.some.injEq, Prod.mk.injEq] at H
      obtain ⟨rfl, rfl⟩ := H
      obtain ⟨vt, ht1, ht2⟩ := HX.out.t
      have ct1 := cell_of_one ht1
      have HT := am ht2
      clear ht1 ht2
      have fl_ := trivial
      iterate 3 (try ((first | clear fl_ | go_step3); go_wp2))
      (try rw [Exit.noGoto_ret])
      go_ret2
      exact ⟨_, per, HT.out, HX.out.B⟩
     rw [if_pos c8] at H
     have c8b0 : decide (i < (on.length : Int)) = true := decide_eq_true c8
     by_cases c9 : 0 ≤ i
     rotate_left
     ·rw [if_neg c9] at H
      exact absurd H (by simp)
     rw [if_pos c9] at H
     have p1 : 0 ≤ i := c9
     have q1 : i < (on.length : Int) := c8
     obtain ⟨bo, hbo⟩ : ∃ b, b = rdOf false on i := ⟨_, rfl⟩
     obtain ⟨ad7, e7, hx7⟩ := Kd.at_bool (Kd.R_reads' HO.1).2.2 i p1 q1
     rw [← hbo] at hx7 H
     cases e7
     replace p1 := eq_true p1
     replace q1 := eq_true q1
     clear c8 c9 hbo
     cases bo with
     | true =>
      rw [if_pos rfl] at H
      have H' := am H
      clear H
      have fl_ := trivial
      iterate 3 (try ((first | clear fl_ | go_step3); go_wp2))
      go_roundg k1
      case measure => have := HK.1; omega
      case rel => exact ⟨(wrap64 (i + 1)), ds, prs, H', ⟨by have := HK.1; omega⟩, HX, HO⟩
     | false =>
      rw [if_neg Bool.false_ne_true] at H
      by_cases c10 : ds.length < 1000000
      rotate_left
      ·rw [if_neg c10] at H
       exact absurd H (by simp)
      rw [if_pos c10] at H
      have C10 := am c10
      clear c10
      by_cases c11 : i < (l0_1.length : Int)
      case pos =>
       rw [if_pos c11] at H
       have c11b0 : decide (i < (l0_1.length : Int)) = true := decide_eq_true c11
       clear c11
       have H' := am H
       clear H
       have fl_ := trivial
       iterate 3 (try ((first | clear fl_ | go_step3); go_wp2_with (first | (go_at_call 39; refine (tell_at w _ _ _ _ _ _ _ HX.out C10.out).mono ?_; rintro e w7 ⟨rfl, hx, hk⟩; replace HX := am hx; replace HO := am (hk _ _ HO.out); clear hx hk; (try clear cx0 cx1 cx2); obtain ⟨cx0, cx1, cx2, _, _, _⟩ := cf3 HX.out.bx))))
       go_roundg k1
       case measure => have := HK.1; omega
       case rel => exact ⟨(wrap64 (i + 1)), _, prs, H', ⟨by have := HK.1; omega⟩, HX, HO⟩
      case neg =>
       rw [if_neg c11] at H
       have c11b0 : decide (i < (l0_1.length : Int)) = false := decide_eq_false c11
       clear c11
       have H' := am H
       clear H
       have fl_ := trivial
       iterate 3 (try ((first | clear fl_ | go_step3); go_wp2_with (first | (go_at_call 39; refine (tell_at w _ _ _ _ _ _ _ HX.out C10.out).mono ?_; rintro e w7 ⟨rfl, hx, hk⟩; replace HX := am hx; replace HO := am (hk _ _ HO.out); clear hx hk; (try clear cx0 cx1 cx2); obtain ⟨cx0, cx1, cx2, _, _, _⟩ := cf3 HX.out.bx))))
       go_roundg k1
       case measure => have := HK.1; omega
       case rel => exact ⟨(wrap64 (i + 1)), _, prs, H', ⟨by have := HK.1; omega⟩, HX, HO⟩
    case neg =>
     rw [if_neg c6] at h
     have c6b0 : (t1 == t2) = false := beq_eq_false_iff_ne.mpr c6
     clear c6
     have HL0 := am h
     clear h
     go_enter Try.func18, Try.ntmps18
     have fl_ := trivial
     iterate 3 (try ((first | clear fl_ | go_step3); go_wp2_with (first | ((with_reducible refine gate_dst (N := 1) rfl ?_); refine box_ev (N := 1) (cs := #[.string a0_0, .slice A0_1 l0_1.length c0_1, .slice A0_2 l0_2.length c0_2]) (t := 25) ?_; intro gb211 hg w6 hbox hb; have BK211 := am hbox; have GW211 := gwl hg; replace HB := bsl hb; clear hb hbox hg; obtain ⟨hcz7_0, hcz7_1, hcz7_2, hfz7_0, hfz7_1, hfz7_2⟩ := cf3 BK211.1) | (go_at_call 37; (with_reducible refine (net_Check.calls k a0_0 _ _ l0_1 _ _ l0_2 t212 t213 _ ?side1 ?side2 ?side3 ?side4 A2.1).mono ?_); (case side1 => exact csb HR0_1 HB); (case side2 => exact HC0_1.1); (case side3 => exact csb HR0_2 HB); (case side4 => exact HC0_2.1); rintro e w8 ⟨rfl, hb⟩; replace BK211 := bbh BK211 hb; replace HB := bst hb; (try clear hb); (try clear hb2); (try clear hk); (try clear hi)) | ((with_reducible refine gate_dst (N := 4) rfl ?_); refine box_ev (N := 4) (cs := #[.int .i64 0, .int .i64 0]) (t := 60) ?_; intro gb214 hg w9 hbox hb; have BK214 := am hbox; have GW214 := gwb hg; have GE214 := GW214; have NB211_214 := nlt hg BK211; have NB214_211 := ngt hg BK211; replace BK211 := bbh BK211 hb; replace HB := bst hb; clear hb hbox hg; have hnb10 := NB214_211.1; have hnc10 := NB211_214.1; obtain ⟨hcz11_0, hcz11_1, hfz11_0, hfz11_1⟩ := cf2 BK214.1; obtain ⟨hcz12_0, hcz12_1, hcz12_2, hfz12_0, hfz12_1, hfz12_2⟩ := cf3 BK211.1) | (go_at_call 38; (with_reducible refine (net_Plain.calls k a0_0 _ _ l0_1 _ _ l0_2 true _ ?side1 ?side2 ?side3 ?side4 A4.1).mono ?_); (case side1 => exact Kd.C_below HR0_1.1 pbg); (case side2 => exact HC0_1.1); (case side3 => exact Kd.C_below HR0_2.1 pbg); (case side4 => exact HC0_2.1); rintro e w13 ⟨rfl, hb⟩; replace BK211 := am (blk_below (g := gb211) (o := .cells #[.string a0_0, .slice A0_1 l0_1.length c0_1, .slice A0_2 l0_2.length c0_2] 25 (0, 0)) (by (with_reducible repeat (first | refine blk_drewN ?_ _ | refine blk_drew ?_ | refine blk_alloc ?_ _)); refine bf2 ?_ NB211_214.1; exact pbk BK211.1) hb); replace HB := bst hb; (try clear BK214); (try clear hb); (try clear hb2); (try clear hk); (try clear hi); have HX := am (show DInv w (w13.alloc (.cells #[.slice none 0 0] 32)) gb211 w13.heap.size #[.string a0_0, .slice A0_1 l0_1.length c0_1, .slice A0_2 l0_2.length c0_2] [] from ⟨⟨.slice none 0 0, alloc_new _ _, Kd.R_nil _ _ _ _ _⟩, below_alloc HB.out _, HB.out.size, blk_below BK211.out (below_alloc (Below.refl _ _) _)⟩); (try clear hcz7_0 hcz7_1 hcz7_2 hfz7_0 hfz7_1 hfz7_2 hcz11_0 hcz11_1 hfz11_0 hfz11_1 hcz12_0 hcz12_1 hcz12_2 hfz12_0 hfz12_1 hfz12_2); (try clear cx0 cx1 cx2); obtain ⟨cx0, cx1, cx2, _, _, _⟩ := cf3 HX.out.bx) | (go_at_call 12; refine (workflow_Source.calls k _ _ _ _ _ _ _ _ _ _ (Kd.C_below HR0_1.1 HX.1.B) HC0_1.1 (Kd.C_below HR0_2.1 HX.1.B) HC0_2.1 A5.1).mono ?_; rintro e w4 ⟨rfl, hb⟩; replace HX := am (HX.1.below hb); clear hb; (try clear cx0 cx1 cx2); obtain ⟨cx0, cx1, cx2, _, _, _⟩ := cf3 HX.out.bx) | (go_at_call 14; refine (workflow_Sink.calls k _ _ _ _ _ _ _ _ _ _ (Kd.C_below HR0_1.1 HX.1.B) HC0_1.1 (Kd.C_below HR0_2.1 HX.1.B) HC0_2.1 A6.1).mono ?_; rintro e w4 ⟨rfl, hb⟩; replace HX := am (HX.1.below hb); clear hb; (try clear cx0 cx1 cx2); obtain ⟨cx0, cx1, cx2, _, _, _⟩ := cf3 HX.out.bx) | (go_at_call 40; refine (workflow_onPath.calls k _ _ _ _ _ _ _ _ _ _ _ (Kd.C_below HR0_1.1 HX.1.B) HC0_1.1 (Kd.C_below HR0_2.1 HX.1.B) HC0_2.1 A7.1).mono ?_; rintro e w4 ⟨vo, rfl, ho, hb⟩; have HO := am (Kd.R_lower ho HX.1.B.size); replace HX := am (HX.1.below hb); clear hb ho; (try clear cx0 cx1 cx2); obtain ⟨cx0, cx1, cx2, _, _, _⟩ := cf3 HX.out.bx; obtain ⟨Ao, co, rfl⟩ := Kd.R_slice HO.out))))
     go_loopg [60] k (fun kq v60 w' => ∃ (i : Int) (ds : List (S50)), v60 = .int .i64 i ∧ Aside0 (workflow_Problems.l0 kq on (l0_1.length : Int) i ds = some (r1, r2)) ∧ Aside0 (kq ≤ k) ∧ Aside0 (DInv w w' gb211 w13.heap.size #[.string a0_0, .slice A0_1 l0_1.length c0_1, .slice A0_2 l0_2.length c0_2] ds) ∧ Aside0 (Kd.R Kd.bool 4 w' w.heap.size (fun _ => True) (.slice Ao on.length co) on))
     case atStart => exact ⟨0, _, rfl, HL0, ⟨Nat.le_refl _⟩, HX, HO⟩
     clear HL0 HX HO
     obtain ⟨i, ds, rfl, HA, HK, HX, HO⟩ := hrel
     obtain _ | k1 := gk
     ·exact absurd HA.out (by simp [workflow_Problems.l0])
     have H := HA.out
     clear HA
     simp only [workflow_Problems.l0] at H
     obtain ⟨cx0, cx1, cx2, _, _, _⟩ := cf3 HX.out.bx
     by_cases c8 : i < (on.length : Int)
     case neg =>
      rw [if_neg c8] at H
      have c8b0 : decide (i < (on.length : Int)) = false := decide_eq_false c8
      clear c8
      simp only [Option.some.injEq, Prod.mk.injEq] at H
      obtain ⟨rfl, rfl⟩ := H
      obtain ⟨vt, ht1, ht2⟩ := HX.out.t
      have ct1 := cell_of_one ht1
      have HT := am ht2
      clear ht1 ht2
      have fl_ := trivial
      iterate 3 (try ((first | clear fl_ | go_step3); go_wp2))
      (try rw [Exit.noGoto_ret])
      go_ret2
      exact ⟨_, per, HT.out, HX.out.B⟩
     rw [if_pos c8] at H
     have c8b0 : decide (i < (on.length : Int)) = true := decide_eq_true c8
     by_cases c9 : 0 ≤ i
     rotate_left
     ·rw [if_neg c9] at H
      exact absurd H (by simp)
     rw [if_pos c9] at H
     have p1 : 0 ≤ i := c9
     have q1 : i < (on.length : Int) := c8
     obtain ⟨bo, hbo⟩ : ∃ b, b = rdOf false on i := ⟨_, rfl⟩
     obtain ⟨ad7, e7, hx7⟩ := Kd.at_bool (Kd.R_reads' HO.1).2.2 i p1 q1
     rw [← hbo] at hx7 H
     cases e7
     replace p1 := eq_true p1
     replace q1 := eq_true q1
     clear c8 c9 hbo
     cases bo with
     | true =>
      rw [if_pos rfl] at H
      have H' := am H
      clear H
      have fl_ := trivial
      iterate 3 (try ((first | clear fl_ | go_step3); go_wp2))
      go_roundg k1
      case measure => have := HK.1; omega
      case rel => exact ⟨(wrap64 (i + 1)), ds, prs, H', ⟨by have := HK.1; omega⟩, HX, HO⟩
     | false =>
      rw [if_neg Bool.false_ne_true] at H
      by_cases c10 : ds.length < 1000000
      rotate_left
      ·rw [if_neg c10] at H
       exact absurd H (by simp)
      rw [if_pos c10] at H
      have C10 := am c10
      clear c10
      by_cases c11 : i < (l0_1.length : Int)
      case pos =>
       rw [if_pos c11] at H
       have c11b0 : decide (i < (l0_1.length : Int)) = true := decide_eq_true c11
       clear c11
       have H' := am H
       clear H
       have fl_ := trivial
       iterate 3 (try ((first | clear fl_ | go_step3); go_wp2_with (first | (go_at_call 39; refine (tell_at w _ _ _ _ _ _ _ HX.out C10.out).mono ?_; rintro e w7 ⟨rfl, hx, hk⟩; replace HX := am hx; replace HO := am (hk _ _ HO.out); clear hx hk; (try clear cx0 cx1 cx2); obtain ⟨cx0, cx1, cx2, _, _, _⟩ := cf3 HX.out.bx))))
       go_roundg k1
       case measure => have := HK.1; omega
       case rel => exact ⟨(wrap64 (i + 1)), _, prs, H', ⟨by have := HK.1; omega⟩, HX, HO⟩
      case neg =>
       rw [if_neg c11] at H
       have c11b0 : decide (i < (l0_1.length : Int)) = false := decide_eq_false c11
       clear c11
       have H' := am H
       clear H
       have fl_ := trivial
       iterate 3 (try ((first | clear fl_ | go_step3); go_wp2_with (first | (go_at_call 39; refine (tell_at w _ _ _ _ _ _ _ HX.out C10.out).mono ?_; rintro e w7 ⟨rfl, hx, hk⟩; replace HX := am hx; replace HO := am (hk _ _ HO.out); clear hx hk; (try clear cx0 cx1 cx2); obtain ⟨cx0, cx1, cx2, _, _, _⟩ := cf3 HX.out.bx))))
       go_roundg k1
       case measure => have := HK.1; omega
       case rel => exact ⟨(wrap64 (i + 1)), _, prs, H', ⟨by have := HK.1; omega⟩, HX, HO⟩

/-! ### workflow_Is: function 16 -/
def workflow_Is.f (k : Nat) (a0_0 : ByteArray) (l0_1 : List (S52)) (l0_2 : List (S48)) : Option (Bool) := (workflow_Problems.f k a0_0 l0_1 l0_2).bind fun bt212 => (if bt212.2 = 0 then (some ((bt212.1.length : Int) == 0)) else (some false))
theorem workflow_Is.mono : ∀ a0 a1 a2 k, LeO (workflow_Is.f k a0 a1 a2) (workflow_Is.f (k + 1) a0 a1 a2) := by
 intro a0 a1 a2 k
 unfold workflow_Is.f
 repeat' first | (with_reducible first | apply workflow_Problems.mono | apply lr | apply ln | apply li | refine lb ?_ fun _ => ?_)
set_option maxHeartbeats 8000000 in
set_option maxRecDepth 100000 in
theorem workflow_Is.calls (k : Nat) (a0_0 : ByteArray) (A0_1 : Option Addr) (c0_1 : Nat) (l0_1 : List (S52)) (A0_2 : Option Addr) (c0_2 : Nat) (l0_2 : List (S48)) (r : Bool) (w : World) (hr0_1 : Kd.C k52 w A0_1 l0_1.length l0_1) (hc0_1 : l0_1.length ≤ c0_1) (hr0_2 : Kd.C k48 w A0_2 l0_2.length l0_2) (hc0_2 : l0_2.length ≤ c0_2) (h : workflow_Is.f k a0_0 l0_1 l0_2 = some r) :
  Calls Try.prog 16 #[.agg #[.string a0_0, .slice A0_1 l0_1.length c0_1, .slice A0_2 l0_2.length c0_2]] w fun e w' => e = .returned (.bool r) ∧ Below w.heap.size w w' := by
 have hu25 := Try.underlying25
 have HR0_1 := am hr0_1
 have HC0_1 := am hc0_1
 clear hr0_1 hc0_1
 have HR0_2 := am hr0_2
 have HC0_2 := am hc0_2
 clear hr0_2 hc0_2
 have HB := am (Below.refl w.heap.size w)
 have H : ((workflow_Problems.f k a0_0 l0_1 l0_2).bind fun bt212 => (if bt212.2 = 0 then (some ((bt212.1.length : Int) == 0)) else (some false))) = some r := h
 clear h
 replace H := bnd H
 obtain ⟨⟨t212, t215⟩, A2, H⟩ := H
 (try dsimp only at H)
 by_cases c3 : t215 = 0
 rotate_left
 ·rw [if_neg c3] at H
  have c3b0 : (t215 == 0) = false := beq_eq_false_iff_ne.mpr c3
  have c3b1 : (t215 != 0) = true := bne_iff_ne.mpr c3
  obtain rfl := Option.some.inj H
  go_enter Try.func16, Try.ntmps16
  go_wp2_with (first | ((with_reducible refine gate_dst (N := 1) rfl ?_); (try (refine gate_guard (by rfl) ?_; dsimp only)); refine box_ev (N := 1) (cs := #[.string a0_0, .slice A0_1 l0_1.length c0_1, .slice A0_2 l0_2.length c0_2]) (t := 25) ?_; intro gb211 hg w8 hbox hb; have BK211 := am hbox; have GW211 := gwl hg; have GE211 := GW211; replace HB := bsl hb; clear hb hbox hg; obtain ⟨z9_0, z9_1, z9_2, y9_0, y9_1, y9_2⟩ := cf3 BK211.1) | ((with_reducible refine gate_callee (f := 18) rfl ?_); refine gC 7 Try.func18 _ (workflow_Problems.calls k a0_0 _ _ l0_1 _ _ l0_2 t212 t215 _ (csb HR0_1 HB) HC0_1.1 (csb HR0_2 HB) HC0_2.1 A2.1) ?_; rintro e w10 ⟨v213, rfl, ho0, hb⟩; refine ⟨_, rfl, ?_⟩; have HO214 := am (Kd.R_lower ho0 (below_size pbg)); replace BK211 := bbh BK211 hb; replace HB := bst hb; (try clear hb); (try clear ho0)))
  go_ret
  exact ⟨per, pbg⟩
 rw [if_pos c3] at H
 have c3b0 : (t215 == 0) = true := beq_iff_eq.mpr c3
 have c3b1 : (t215 != 0) = false := bne_eq_false_iff_eq.mpr c3
 clear c3
 obtain rfl := Option.some.inj H
 go_enter Try.func16, Try.ntmps16
 go_wp2_with (first | ((with_reducible refine gate_dst (N := 1) rfl ?_); (try (refine gate_guard (by rfl) ?_; dsimp only)); refine box_ev (N := 1) (cs := #[.string a0_0, .slice A0_1 l0_1.length c0_1, .slice A0_2 l0_2.length c0_2]) (t := 25) ?_; intro gb211 hg w4 hbox hb; have BK211 := am hbox; have GW211 := gwl hg; have GE211 := GW211; replace HB := bsl hb; clear hb hbox hg; obtain ⟨z5_0, z5_1, z5_2, y5_0, y5_1, y5_2⟩ := cf3 BK211.1) | ((with_reducible refine gate_callee (f := 18) rfl ?_); refine gC 7 Try.func18 _ (workflow_Problems.calls k a0_0 _ _ l0_1 _ _ l0_2 t212 t215 _ (csb HR0_1 HB) HC0_1.1 (csb HR0_2 HB) HC0_2.1 A2.1) ?_; rintro e w6 ⟨v213, rfl, ho0, hb⟩; refine ⟨_, rfl, ?_⟩; have HO214 := am (Kd.R_lower ho0 (below_size pbg)); replace BK211 := bbh BK211 hb; replace HB := bst hb; (try clear hb); (try clear ho0); obtain ⟨Ao7, co7, eo7⟩ := Kd.R_slice HO214.1; subst eo7))
 go_ret
 exact ⟨per, pbg⟩

/-! ### workflow_arcs: function 44 -/
-- IMPORTS Derived.Test.YtnoebjmhimehcaaCopyS
def workflow_arcs.f (l0 : List (S55)) : Option (List (S55)) := if l0.length ≤ 1000000 then some l0 else none
def arcCells (x : S55) : List Value := [.int .i64 x.f0, .int .i64 x.f1]
theorem arcCells_one (x : S55) : ∀ u ∈ arcCells x, u.oneCell' = true := by
 intro u hu
 unfold arcCells at hu
 simp at hu
 rcases hu with rfl | rfl <;> rfl
set_option maxHeartbeats 1000000 in
set_option maxRecDepth 100000 in
theorem workflow_arcs.calls (A0 : Option Addr) (c0 : Nat) (l0 : List (S55)) (r : List (S55)) (w : World) (hr0 : Kd.C k55 w A0 l0.length l0) (hc0 : l0.length ≤ c0) (h : workflow_arcs.f l0 = some r) :
  Calls Try.prog 44 #[.slice A0 l0.length c0] w fun e w' => ∃ v0_ : Value, e = .returned (v0_) ∧ Kd.R k55 55 w' w.heap.size (fun _ => True) v0_ r ∧ Below w.heap.size w w' := by
 have HR := Aside0.mk hr0
 have HC := Aside0.mk hc0
 unfold workflow_arcs.f at h
 by_cases c : l0.length ≤ 1000000
 case neg => rw [if_neg c] at h; cases h
 rw [if_pos c] at h
 obtain rfl := Option.some.inj h
 have HL := Aside0.mk c
 have hz : (0 : Int) ≤ (l0.length : Int) := Int.natCast_nonneg _
 have HZ := Aside0.mk hz
 clear hr0 hc0 h c hz
 go_enter Try.func44, Try.ntmps44
 go_wp2_with (first
  | ((with_reducible refine gate_dst (N := 6) rfl ?_); refine Kd.R_make (w0 := w) k55 w.heap.size 55 rfl (N := 6) rfl 46 _ _ rfl (l0.length : Int) rfl rfl Try.underlying46 (.agg #[.int .i64 0, .int .i64 0]) 16 info55 rfl (by decide) (by omega) z55 (ok := fun _ => True) (okp := fun _ => True) (k55_mkM _ _ _ z55) (fun _ hk => hk) trivial HZ.out (by have := HL.out; omega) (Below.refl _ _) (Nat.le_refl _) ?_; intro v1 w1 ho hb hg hnew; rw [Int.toNat_natCast] at ho; have HO := Aside0.mk ho; have HB := Aside0.mk hb; have HN := Aside0.mk (show v1.ownBlock ≠ none by obtain ⟨b, hb2, _⟩ := hnew; rw [hb2]; simp); have HR1 := Aside0.mk (Kd.C_below HR.out hb); have HSZ := Aside0.mk hb.size; clear ho hb hg hnew)
  | ((with_reducible refine gate_builtin (b := .copy) (xs := #[.tmp 7, .tmp 8]) rfl ?_); refine R_copyS (w0 := w) arcCells (fun _ => rfl) (fun hk => k55_open hk) (k55_mkM _ _ _ _) arcCells_one w.heap.size rfl (.tmp 7) (.tmp 8) 46 46 rfl Try.underlying46 (by kernel_rfl) rfl rfl HO.out HN.out List.length_replicate HR1.out HB.out HSZ.out ?_; intro w2 n hr2 hb2 hg2; have HO2 := Aside0.mk hr2; have HB2 := Aside0.mk hb2; clear hr2 hb2 hg2))
 go_ret
 exact ⟨_, rfl, HO2.out, HB2.out⟩

/-! ### workflow_Prepare: function 21 -/
attribute [local go_sem high] eqA50
mutual
def workflow_Prepare.l0 : Nat → Int → List (S52) → Int → Int → ByteArray → List (S52) → List (S48) → ByteArray → List (S52) → Option (ByteArray × (List (S52)) × (List (S48)) × Int)
 | 0, _, _, _, _, _, _, _, _, _ => none
 | k + 1, x6, x35, x36, x37, x217000, x217001, x217002, x225000, x225001 => if x37 < x36 then (if 0 ≤ x37 then (if x37 < (x35.length : Int) then (if x37 = x6 then (if x225001.length < 4398046511104 then (workflow_Prepare.l0 k x6 x35 x36 (wrap64 (x37 + 1)) x217000 x217001 x217002 x225000 (x225001 ++ [(⟨(rd_T52 x35 x37).f0, 1, (rd_T52 x35 x37).f2⟩ : S52)])) else (none)) else (if x225001.length < 4398046511104 then (workflow_Prepare.l0 k x6 x35 x36 (wrap64 (x37 + 1)) x217000 x217001 x217002 x225000 (x225001 ++ [(⟨(rd_T52 x35 x37).f0, 0, (rd_T52 x35 x37).f2⟩ : S52)])) else (none))) else (none)) else (none)) else (workflow_Prepare.l1 k x217002 (x217002.length : Int) 0 x225000 x225001 ([] : List (S48)))
def workflow_Prepare.l1 : Nat → List (S48) → Int → Int → ByteArray → List (S52) → List (S48) → Option (ByteArray × (List (S52)) × (List (S48)) × Int)
 | 0, _, _, _, _, _, _ => none
 | k + 1, x55, x56, x57, x225000, x225001, x225002 => if x57 < x56 then (if 0 ≤ x57 then (if x57 < (x55.length : Int) then ((workflow_arcs.f ((rd_T48 x55 x57).f1)).bind fun t235 => ((workflow_arcs.f ((rd_T48 x55 x57).f2)).bind fun t238 => (if x225002.length < 1466015503701 then (workflow_Prepare.l1 k x55 x56 (wrap64 (x57 + 1)) x225000 x225001 (x225002 ++ [(⟨(rd_T48 x55 x57).f0, t235, t238, ([] : List (S55)), (rd_T48 x55 x57).f4⟩ : S48)])) else (none)))) else (none)) else (none)) else (some (x225000, x225001, x225002, 0))
end
def workflow_Prepare.f (k : Nat) (a0_0 : ByteArray) (l0_1 : List (S52)) (l0_2 : List (S48)) : Option (ByteArray × (List (S52)) × (List (S48)) × Int) := (workflow_Problems.f k a0_0 l0_1 l0_2).bind fun bt218 => (if bt218.2 = 0 then (if (bt218.1.length : Int) > 0 then (some ((⟨#[]⟩ : ByteArray), ([] : List (S52)), ([] : List (S48)), 15)) else ((workflow_Source.f k a0_0 l0_1 l0_2).bind fun bt222 => (workflow_Prepare.l0 k bt222.1 l0_1 (l0_1.length : Int) 0 a0_0 l0_1 l0_2 a0_0 ([] : List (S52))))) else (some ((⟨#[]⟩ : ByteArray), ([] : List (S52)), ([] : List (S48)), bt218.2)))
theorem workflow_Prepare.mono_l : ∀ k, M9 workflow_Prepare.l0 k ∧ M6 workflow_Prepare.l1 k
 | 0 => ⟨fun _ _ _ _ _ _ _ _ _ r h => by simp [workflow_Prepare.l0] at h, fun _ _ _ _ _ _ r h => by simp [workflow_Prepare.l1] at h⟩
 | k + 1 => by
  obtain ⟨ih0, ih1⟩ := workflow_Prepare.mono_l k
  refine ⟨?_, ?_⟩ <;> dsimp only [M6, M9] <;> intros <;> (first | unfold workflow_Prepare.l0 | unfold workflow_Prepare.l1) <;> repeat' first | (with_reducible first | apply ih0 | apply ih1 | apply workflow_Problems.mono | apply workflow_Source.mono | apply lr | apply ln | apply li | refine lb ?_ fun _ => ?_)
theorem workflow_Prepare.mono : ∀ a0 a1 a2 k, LeO (workflow_Prepare.f k a0 a1 a2) (workflow_Prepare.f (k + 1) a0 a1 a2) := by
 intro a0 a1 a2 k
 obtain ⟨ih0, ih1⟩ := workflow_Prepare.mono_l k
 unfold workflow_Prepare.f
 repeat' first | (with_reducible first | apply ih0 | apply ih1 | apply workflow_Problems.mono | apply workflow_Source.mono | apply lr | apply ln | apply li | refine lb ?_ fun _ => ?_)
def workflow_Prepare.T19 : Bool × List (List Nat × List Nat) := (true, [([], []), ([0], [0]), ([1], [1]), ([], []), ([3], [3]), ([4, 2], [4]), ([0, 1, 2, 3, 4], []), ([6, 2, 5, 0, 1, 2, 3, 4], [2, 6]), ([0, 1, 2, 3, 4, 5, 6, 7], []), ([8, 5, 7, 0, 1, 2, 3, 4, 5, 6, 7], [5, 8]), ([0, 1, 2, 3, 4, 5, 6, 7, 8, 9], []), ([10, 9, 0, 1, 2, 3, 4, 5, 6, 7, 8, 9], [10])])
def workflow_Prepare.B19 : List Nat := [0, 1, 3, 0, 8, 31, 31, 127, 255, 511, 1023, 2047]
theorem workflow_Prepare.tab19 : rtab .any (opsOf Try.f21 19) = workflow_Prepare.T19 := by kernel_rfl
theorem workflow_Prepare.bits19 : waitsOk workflow_Prepare.T19.2 workflow_Prepare.B19 = true := by kernel_rfl
attribute [local go_sem] isc
set_option maxHeartbeats 8000000 in
set_option maxRecDepth 100000 in
theorem workflow_Prepare.calls (k : Nat) (a0_0 : ByteArray) (A0_1 : Option Addr) (c0_1 : Nat) (l0_1 : List (S52)) (A0_2 : Option Addr) (c0_2 : Nat) (l0_2 : List (S48)) (r1 : ByteArray) (r2 : List (S52)) (r3 : List (S48)) (r4 : Int) (w : World) (hr0_1 : Kd.C k52 w A0_1 l0_1.length l0_1) (hc0_1 : l0_1.length ≤ c0_1) (hr0_2 : Kd.C k48 w A0_2 l0_2.length l0_2) (hc0_2 : l0_2.length ≤ c0_2) (h : workflow_Prepare.f k a0_0 l0_1 l0_2 = some (r1, r2, r3, r4)) :
  Calls Try.prog 21 #[.agg #[.string a0_0, .slice A0_1 l0_1.length c0_1, .slice A0_2 l0_2.length c0_2]] w fun e w' => ∃ v1_ v2_ : Value, e = .returned (.tuple #[.agg #[.string r1, v1_, v2_], .int .i64 r4]) ∧ Kd.R k52 52 w' w.heap.size (fun _ => True) v1_ r2 ∧ Kd.S k48 48 w' w.heap.size (fun _ => True) v2_ r3 ∧ Below w.heap.size w w' := by
 have hu25 := Try.underlying25
 have hu52 := Try.underlying52
 have hu48 := Try.underlying48
 have HR0_1 := am hr0_1
 have HC0_1 := am hc0_1
 clear hr0_1 hc0_1
 have HR0_2 := am hr0_2
 have HC0_2 := am hc0_2
 clear hr0_2 hc0_2
 have HB := am (Below.refl w.heap.size w)
 have H : ((workflow_Problems.f k a0_0 l0_1 l0_2).bind fun bt218 => (if bt218.2 = 0 then (if (bt218.1.length : Int) > 0 then (some ((⟨#[]⟩ : ByteArray), ([] : List (S52)), ([] : List (S48)), 15)) else ((workflow_Source.f k a0_0 l0_1 l0_2).bind fun bt222 => (workflow_Prepare.l0 k bt222.1 l0_1 (l0_1.length : Int) 0 a0_0 l0_1 l0_2 a0_0 ([] : List (S52))))) else (some ((⟨#[]⟩ : ByteArray), ([] : List (S52)), ([] : List (S48)), bt218.2)))) = some (r1, r2, r3, r4) := h
 clear h
 replace H := bnd H
 obtain ⟨⟨t218, t221⟩, A2, H⟩ := H
 (try dsimp only at H)
 by_cases c3 : t221 = 0
 rotate_left
 ·rw [if_neg c3] at H
  have c3b0 : (t221 == 0) = false := beq_eq_false_iff_ne.mpr c3
  have c3b1 : (t221 != 0) = true := bne_iff_ne.mpr c3
  simp only [Option.some.injEq, Prod.mk.injEq] at H
  obtain ⟨rfl, rfl, rfl, rfl⟩ := H
  go_enter Try.func21, Try.ntmps21
  go_wp2_with (first | ((with_reducible refine gate_dst (N := 1) rfl ?_); refine box_ev (N := 1) (cs := #[.string a0_0, .slice A0_1 l0_1.length c0_1, .slice A0_2 l0_2.length c0_2]) (t := 25) ?_; intro gb216 hg w93 hbox hb; have BK216 := am hbox; have GW216 := gwl hg; have GE216 := GW216; replace HB := bsl hb; clear hb hbox hg) | ((with_reducible refine gate_dst (N := 2) rfl ?_); refine box_ev (N := 2) (cs := #[.string (⟨#[]⟩ : ByteArray), .slice none 0 0, .slice none 0 0]) (t := 25) ?_; intro gb217 hg w94 hbox hb; have BK217 := am hbox; have GW217 := gwb hg; have GE217 := GW217; have NB216_217 := nlt hg BK216; have NB217_216 := ngt hg BK216; replace BK216 := bbh BK216 hb; replace HB := bst hb; clear hb hbox hg; have hnb95 := NB216_217.1; have hnc95 := NB217_216.1; obtain ⟨z96_0, z96_1, z96_2, y96_0, y96_1, y96_2⟩ := cf3 BK216.1) | ((with_reducible refine gate_callee (f := 18) rfl ?_); refine gC 15 Try.func18 _ (workflow_Problems.calls k a0_0 _ _ l0_1 _ _ l0_2 t218 t221 _ (csb HR0_1 HB) HC0_1.1 (csb HR0_2 HB) HC0_2.1 A2.1) ?_; rintro e w97 ⟨v219, rfl, ho0, hb⟩; refine ⟨_, rfl, ?_⟩; have HO220 := am (Kd.R_lower ho0 (below_size pbg)); replace BK216 := bbh BK216 hb; replace BK217 := bbh BK217 hb; replace HB := bst hb; (try clear hb); (try clear ho0); obtain ⟨z98_0, z98_1, z98_2, y98_0, y98_1, y98_2⟩ := cf3 BK217.1))
  refine bodyPost_ret (results_ct rfl _ _ gb217 25 #[.string (⟨#[]⟩ : ByteArray), .slice none 0 0, .slice none 0 0] (0, 0) _ rfl (by (with_reducible repeat (first | refine blk_drewN ?_ _ | refine blk_drew ?_ | refine blk_alloc ?_ _)); exact bp3 (pbk BK217.1)) Try.underlying25 rfl (by kernel_rfl)) rfl ?_
  exact ⟨_, _, per, knl, knl, pbg⟩
 rw [if_pos c3] at H
 have c3b0 : (t221 == 0) = true := beq_iff_eq.mpr c3
 have c3b1 : (t221 != 0) = false := bne_eq_false_iff_eq.mpr c3
 clear c3
 by_cases c4 : (t218.length : Int) > 0
 ·rw [if_pos c4] at H
  have c4b0 : decide (0 < (t218.length : Int)) = true := decide_eq_true c4
  have c4b1 : decide (0 < t218.length) = true := decide_eq_true (by omega)
  clear c4
  simp only [Option.some.injEq, Prod.mk.injEq] at H
  obtain ⟨rfl, rfl, rfl, rfl⟩ := H
  go_enter Try.func21, Try.ntmps21
  go_wp2_with (first | ((with_reducible refine gate_dst (N := 1) rfl ?_); refine box_ev (N := 1) (cs := #[.string a0_0, .slice A0_1 l0_1.length c0_1, .slice A0_2 l0_2.length c0_2]) (t := 25) ?_; intro gb216 hg w5 hbox hb; have BK216 := am hbox; have GW216 := gwl hg; have GE216 := GW216; replace HB := bsl hb; clear hb hbox hg) | ((with_reducible refine gate_dst (N := 2) rfl ?_); refine box_ev (N := 2) (cs := #[.string (⟨#[]⟩ : ByteArray), .slice none 0 0, .slice none 0 0]) (t := 25) ?_; intro gb217 hg w6 hbox hb; have BK217 := am hbox; have GW217 := gwb hg; have GE217 := GW217; have NB216_217 := nlt hg BK216; have NB217_216 := ngt hg BK216; replace BK216 := bbh BK216 hb; replace HB := bst hb; clear hb hbox hg; have hnb7 := NB216_217.1; have hnc7 := NB217_216.1; obtain ⟨z8_0, z8_1, z8_2, y8_0, y8_1, y8_2⟩ := cf3 BK216.1) | ((with_reducible refine gate_callee (f := 18) rfl ?_); refine gC 15 Try.func18 _ (workflow_Problems.calls k a0_0 _ _ l0_1 _ _ l0_2 t218 t221 _ (csb HR0_1 HB) HC0_1.1 (csb HR0_2 HB) HC0_2.1 A2.1) ?_; rintro e w9 ⟨v219, rfl, ho0, hb⟩; refine ⟨_, rfl, ?_⟩; have HO220 := am (Kd.R_lower ho0 (below_size pbg)); replace BK216 := bbh BK216 hb; replace BK217 := bbh BK217 hb; replace HB := bst hb; (try clear hb); (try clear ho0); obtain ⟨Ao10, co10, eo10⟩ := Kd.R_slice HO220.1; subst eo10; obtain ⟨z11_0, z11_1, z11_2, y11_0, y11_1, y11_2⟩ := cf3 BK217.1))
  refine bodyPost_ret (results_ct rfl _ _ gb217 25 #[.string (⟨#[]⟩ : ByteArray), .slice none 0 0, .slice none 0 0] (0, 0) _ rfl (by (with_reducible repeat (first | refine blk_drewN ?_ _ | refine blk_drew ?_ | refine blk_alloc ?_ _)); exact bp3 (pbk BK217.1)) Try.underlying25 rfl (by kernel_rfl)) rfl ?_
  exact ⟨_, _, per, knl, knl, pbg⟩
 rw [if_neg c4] at H
 have c4b0 : decide (0 < (t218.length : Int)) = false := decide_eq_false c4
 have c4b1 : decide (0 < t218.length) = false := decide_eq_false (by omega)
 clear c4
 replace H := bnd H
 obtain ⟨⟨t222, t223⟩, A12, H⟩ := H
 (try dsimp only at H)
 have H' := am H
 clear H
 go_enter Try.func21, Try.ntmps21
 go_wp2_with (first | ((with_reducible refine gate_dst (N := 1) rfl ?_); refine box_ev (N := 1) (cs := #[.string a0_0, .slice A0_1 l0_1.length c0_1, .slice A0_2 l0_2.length c0_2]) (t := 25) ?_; intro gb216 hg w13 hbox hb; have BK216 := am hbox; have GW216 := gwl hg; have GE216 := GW216; replace HB := bsl hb; clear hb hbox hg) | ((with_reducible refine gate_dst (N := 2) rfl ?_); refine box_ev (N := 2) (cs := #[.string (⟨#[]⟩ : ByteArray), .slice none 0 0, .slice none 0 0]) (t := 25) ?_; intro gb217 hg w14 hbox hb; have BK217 := am hbox; have GW217 := gwb hg; have GE217 := GW217; have NB216_217 := nlt hg BK216; have NB217_216 := ngt hg BK216; replace BK216 := bbh BK216 hb; replace HB := bst hb; clear hb hbox hg; have hnb15 := NB216_217.1; have hnc15 := NB217_216.1; obtain ⟨z16_0, z16_1, z16_2, y16_0, y16_1, y16_2⟩ := cf3 BK216.1) | ((with_reducible refine gate_callee (f := 18) rfl ?_); refine gC 15 Try.func18 _ (workflow_Problems.calls k a0_0 _ _ l0_1 _ _ l0_2 t218 t221 _ (csb HR0_1 HB) HC0_1.1 (csb HR0_2 HB) HC0_2.1 A2.1) ?_; rintro e w17 ⟨v219, rfl, ho0, hb⟩; refine ⟨_, rfl, ?_⟩; have HO220 := am (Kd.R_lower ho0 (below_size pbg)); replace BK216 := bbh BK216 hb; replace BK217 := bbh BK217 hb; replace HB := bst hb; (try clear hb); (try clear ho0); obtain ⟨Ao18, co18, eo18⟩ := Kd.R_slice HO220.1; subst eo18; obtain ⟨z19_0, z19_1, z19_2, y19_0, y19_1, y19_2⟩ := cf3 BK216.1) | ((with_reducible refine gate_callee (f := 12) rfl ?_); refine gC 28 Try.func12 _ (workflow_Source.calls k a0_0 _ _ l0_1 _ _ l0_2 t222 t223 _ (csb HR0_1 HB) HC0_1.1 (csb HR0_2 HB) HC0_2.1 A12.1) ?_; rintro e w20 ⟨rfl, hb⟩; refine ⟨_, rfl, ?_⟩; replace HO220 := rbw HO220 hb; replace BK216 := bbh BK216 hb; replace BK217 := bbh BK217 hb; replace HB := bst hb; (try clear hb); obtain ⟨z21_0, z21_1, z21_2, y21_0, y21_1, y21_2⟩ := cf3 BK216.1) | ((with_reducible refine gate_dst (N := 8) rfl ?_); refine box_ev (N := 8) (cs := #[.string (⟨#[]⟩ : ByteArray), .slice none 0 0, .slice none 0 0]) (t := 25) ?_; intro gb224 hg w22 hbox hb; have BK224 := am hbox; have GW224 := gwb hg; have GE224 := GW224; have NB216_224 := nlt hg BK216; have NB224_216 := ngt hg BK216; have NB217_224 := nlt hg BK217; have NB224_217 := ngt hg BK217; replace HO220 := rbw HO220 hb; replace BK216 := bbh BK216 hb; replace BK217 := bbh BK217 hb; replace HB := bst hb; clear hb hbox hg; have hnb23 := NB224_216.1; have hnc23 := NB216_224.1; have hnb24 := NB224_217.1; have hnc24 := NB217_224.1; obtain ⟨z25_0, z25_1, z25_2, y25_0, y25_1, y25_2⟩ := cf3 BK224.1; obtain ⟨z26_0, z26_1, z26_2, y26_0, y26_1, y26_2⟩ := cf3 BK216.1))
 go_loopg [37] k (fun kq v37 w' => ∃ (x37_1 : Int) (x225001_1 : List (S52)) (u225001 : Value), v37 = .int .i64 x37_1 ∧ Aside0 (workflow_Prepare.l0 kq t222 l0_1 (l0_1.length : Int) x37_1 a0_0 l0_1 l0_2 a0_0 x225001_1 = some (r1, r2, r3, r4)) ∧ Aside0 (kq ≤ k) ∧ Aside0 (Kd.R k52 52 w' w.heap.size (fun _ => True) u225001 x225001_1) ∧ Aside0 (w'.heap[gb216]? = some (.cells #[.string a0_0, (.slice A0_1 l0_1.length c0_1), (.slice A0_2 l0_2.length c0_2)] 25 (0, 0))) ∧ Aside0 (w'.heap[gb217]? = some (.cells #[.string (⟨#[]⟩ : ByteArray), (.slice none 0 0), (.slice none 0 0)] 25 (0, 0))) ∧ Aside0 (w'.heap[gb224]? = some (.cells #[.string a0_0, u225001, (.slice none 0 0)] 25 (0, 0))) ∧ Aside0 (Below w.heap.size w w'))
 case atStart => exact ⟨(0), (([] : List (S52))), (.slice none 0 0), prs, H', ⟨Nat.le_refl _⟩, ⟨knl⟩, ⟨by (with_reducible repeat (first | refine blk_drewN ?_ _ | refine blk_drew ?_ | refine blk_alloc ?_ _)); refine bf3 ?_ NB216_224.1; exact pbk BK216.1⟩, ⟨by (with_reducible repeat (first | refine blk_drewN ?_ _ | refine blk_drew ?_ | refine blk_alloc ?_ _)); refine bf3 ?_ NB217_224.1; exact pbk BK217.1⟩, ⟨by (with_reducible repeat (first | refine blk_drewN ?_ _ | refine blk_drew ?_ | refine blk_alloc ?_ _)); exact bp3 (pbk BK224.1)⟩, ⟨pbg⟩⟩
 clear H'
 try clear c3 c3b0 c3b1 c4 c4b0 c4b1 z11_0 z11_1 z11_2 z16_0 z16_1 z16_2 z19_0 z19_1 z19_2 z21_0 z21_1 z21_2 z25_0 z25_1 z25_2 z26_0 z26_1 z26_2 z8_0 z8_1 z8_2 y11_0 y11_1 y11_2 y16_0 y16_1 y16_2 y19_0 y19_1 y19_2 y21_0 y21_1 y21_2 y25_0 y25_1 y25_2 y26_0 y26_1 y26_2 y8_0 y8_1 y8_2
 obtain ⟨x37_1, x225001_1, u225001, rfl, HA, HK1, HO_225001, BK216, BK217, BK224, HB⟩ := hrel
 obtain _ | k1 := gk
 ·exact absurd HA.1 (by simp [workflow_Prepare.l0])
 have H := HA.1
 clear HA
 simp only [workflow_Prepare.l0] at H
 by_cases c27 : x37_1 < (l0_1.length : Int)
 ·rw [if_pos c27] at H
  have c27b0 : decide (x37_1 < (l0_1.length : Int)) = true := decide_eq_true c27
  clear c27
  replace H := ifp H
  obtain ⟨c28, H⟩ := H
  have c28b0 := decide_eq_true c28
  clear c28
  replace H := ifp H
  obtain ⟨c29, H⟩ := H
  have c29b0 := decide_eq_true c29
  clear c29
  by_cases c30 : x37_1 = t222
  rotate_left
  ·rw [if_neg c30] at H
   have c30b0 : (x37_1 == t222) = false := beq_eq_false_iff_ne.mpr c30
   have c30b1 : (x37_1 != t222) = true := bne_iff_ne.mpr c30
   replace H := ifp H
   obtain ⟨c43, H⟩ := H
   have LMc43 := am c43
   clear c43
   obtain ⟨y230, hy230⟩ : ∃ y_ : List (S52), y_ = (x225001_1 ++ [(⟨(rd_T52 l0_1 x37_1).f0, 0, (rd_T52 l0_1 x37_1).f2⟩ : S52)]) := ⟨_, rfl⟩
   replace H : (workflow_Prepare.l0 k1 t222 l0_1 (l0_1.length : Int) (wrap64 (x37_1 + 1)) a0_0 l0_1 l0_2 a0_0 y230) = some (r1, r2, r3, r4) := hrp hy230 H
   have Ny230 := am hy230
   clear hy230
   have H' := am H
   clear H
   obtain ⟨p225, q225, ad225, e225, hx225_0, hx225_1, hx225_2⟩ := bT52 HR0_1.1 HB.1 x37_1
   cases e225
   go_wp2_with (first | ((with_reducible refine gate_dst (N := 10) rfl ?_); refine box_ev (N := 10) (cs := #[.string (⟨#[]⟩ : ByteArray), .int .i64 0, .int .i64 0]) (t := 52) ?_; intro gb226 hg w44 hbox hb; have BK226 := am hbox; have GW226 := gwb hg; have GE226 := GW226; have NB216_226 := nlt hg BK216; have NB226_216 := ngt hg BK216; have NB217_226 := nlt hg BK217; have NB226_217 := ngt hg BK217; have NB224_226 := nlt hg BK224; have NB226_224 := ngt hg BK224; replace HO_225001 := am (Kd.R_below (Kd.R_elderB (pkr HO_225001.1) gb226 (Nat.le_of_eq hg.symm)) hb); replace BK216 := bbh BK216 hb; replace BK217 := bbh BK217 hb; replace BK224 := bbh BK224 hb; replace HB := bst hb; clear hb hbox hg; have hnb45 := NB226_216.1; have hnc45 := NB216_226.1; have hnb46 := NB226_217.1; have hnc46 := NB217_226.1; have hnb47 := NB226_224.1; have hnc47 := NB224_226.1; obtain ⟨z48_0, z48_1, z48_2, y48_0, y48_1, y48_2⟩ := cf3 BK226.1; have hnb49 := NB224_216.1; have hnc49 := NB216_224.1; have hnb50 := NB224_217.1; have hnc50 := NB217_224.1; obtain ⟨z51_0, z51_1, z51_2, y51_0, y51_1, y51_2⟩ := cf3 BK224.1) | ((with_reducible refine gate_builtin (b := .append) (xs := #[.tmp 48, .tmp 50]) rfl ?_); at_builtin; refine Kd.R_append k52 (w0 := w) w.heap.size rfl (.tmp 48) (.tmp 50) 22 52 (.agg #[(.string ⟨#[]⟩), (.int .i64 0), (.int .i64 0)]) 32 rfl Try.underlying22 info52 rfl (by decide) (by omega) u225001 x225001_1 (⟨(rd_T52 l0_1 x37_1).f0, 0, (rd_T52 l0_1 x37_1).f2⟩ : S52) [.string ((rd_T52 l0_1 x37_1).f0), .int .i64 0, .int .i64 ((rd_T52 l0_1 x37_1).f2)] (fun k_ => k_ ≠ gb226) (fun _ => False) rfl (by first | (go_simp; done) | (go_simp; rfl)) ?aP (fun _ hk => hk.elim) ?aF ?aO ?aB ?aS ?aL ?_; (case aP => exact k52_mkM _ _ _ (⟨(rd_T52 l0_1 x37_1).f0, 0, (rd_T52 l0_1 x37_1).f2⟩ : S52)); (case aB => exact pbg); (case aF => exact (fun k_ hk => Kd.freshB (g := gb226) (o := .cells #[.string ((rd_T52 l0_1 x37_1).f0), .int .i64 0, .int .i64 ((rd_T52 l0_1 x37_1).f2)] 52 (0, 0)) (by (with_reducible repeat (first | refine blk_drewN ?_ _ | refine blk_drew ?_ | refine blk_alloc ?_ _)); refine blk_put (cs := #[.string ((rd_T52 l0_1 x37_1).f0), .int .i64 ((rd_T52 l0_1 x37_1).f1), .int .i64 ((rd_T52 l0_1 x37_1).f2)]) ?_ 1 _ rfl; (with_reducible repeat (first | refine blk_drewN ?_ _ | refine blk_drew ?_ | refine blk_alloc ?_ _)); exact bp3 (pbk BK226.1)) k_ hk)); (case aO => exact (by (with_reducible repeat (first | apply Kd.R_alloc | apply Kd.R_drewN | apply Kd.R_drew)); exact Kd.R_mono (Kd.R_far (p := ⟨gb226, 1, none⟩) (Kd.R_far (p := ⟨gb226, 2, none⟩) (Kd.R_far (p := ⟨gb226, 1, none⟩) (Kd.R_far (p := ⟨gb226, 0, none⟩) (Kd.R_mono HO_225001.1 (fun k_ hk => (⟨hk, hk.2⟩ : _ ∧ k_ ≠ gb226))) (fun _ hk => hk.2) (.string ((rd_T52 l0_1 x37_1).f0))) (fun _ hk => hk.2) (.int .i64 ((rd_T52 l0_1 x37_1).f1))) (fun _ hk => hk.2) (.int .i64 ((rd_T52 l0_1 x37_1).f2))) (fun _ hk => hk.2) (.int .i64 0)) (fun _ hk => hk.1.2))); (case aS => exact (below_size pbg)); (case aL => have := LMc43.1; omega); intro v231 w52 ho hb hg hat; rw [← Ny230.1] at ho; have HO232 := am ho; replace BK216 := am (blk_grown (g := gb216) (o := .cells #[.string a0_0, .slice (some ad225) l0_1.length c0_1, .slice A0_2 l0_2.length c0_2] 25 (0, 0)) (by (with_reducible repeat (first | refine blk_drewN ?_ _ | refine blk_drew ?_ | refine blk_alloc ?_ _)); refine bf4 ?_ NB216_226.1; exact pbk BK216.1) hg (Kd.R_ne HO_225001.1 BK216.1 (by decide))); replace BK217 := am (blk_grown (g := gb217) (o := .cells #[.string (⟨#[]⟩ : ByteArray), .slice none 0 0, .slice none 0 0] 25 (0, 0)) (by (with_reducible repeat (first | refine blk_drewN ?_ _ | refine blk_drew ?_ | refine blk_alloc ?_ _)); refine bf4 ?_ NB217_226.1; exact pbk BK217.1) hg (Kd.R_ne HO_225001.1 BK217.1 (by decide))); replace BK224 := am (blk_grown (g := gb224) (o := .cells #[.string a0_0, u225001, .slice none 0 0] 25 (0, 0)) (by (with_reducible repeat (first | refine blk_drewN ?_ _ | refine blk_drew ?_ | refine blk_alloc ?_ _)); refine bf4 ?_ NB224_226.1; exact pbk BK224.1) hg (Kd.R_ne HO_225001.1 BK224.1 (by decide))); replace BK226 := am (blk_grown (g := gb226) (o := .cells #[.string ((rd_T52 l0_1 x37_1).f0), .int .i64 0, .int .i64 ((rd_T52 l0_1 x37_1).f2)] 52 (0, 0)) (by (with_reducible repeat (first | refine blk_drewN ?_ _ | refine blk_drew ?_ | refine blk_alloc ?_ _)); refine blk_put (cs := #[.string ((rd_T52 l0_1 x37_1).f0), .int .i64 ((rd_T52 l0_1 x37_1).f1), .int .i64 ((rd_T52 l0_1 x37_1).f2)]) ?_ 1 _ rfl; (with_reducible repeat (first | refine blk_drewN ?_ _ | refine blk_drew ?_ | refine blk_alloc ?_ _)); exact bp3 (pbk BK226.1)) hg (Kd.R_away HO_225001.1 (fun _ hk => hk.2))); replace HB := am hb; clear HO_225001; clear ho hb hg hat; obtain ⟨Ao53, co53, eo53⟩ := Kd.R_slice HO232.1; subst eo53; obtain ⟨z54_0, z54_1, z54_2, y54_0, y54_1, y54_2⟩ := cf3 BK224.1))
   go_roundg k1
   case measure => have := HK1.1; omega
   case rel => exact ⟨(wrap64 (x37_1 + 1)), (y230), (.slice Ao53 y230.length co53), prs, H', ⟨by have := HK1.1; omega⟩, ⟨by (with_reducible repeat (first | apply Kd.R_alloc | apply Kd.R_drewN | apply Kd.R_drew)); exact Kd.R_mono (Kd.R_far (p := ⟨gb224, 1, none⟩) (Kd.R_types HO232.1 BK224.1 (by decide)) (fun _ hk => hk.2) _) (fun _ hk => trivial)⟩, ⟨by (with_reducible repeat (first | refine blk_drewN ?_ _ | refine blk_drew ?_ | refine blk_alloc ?_ _)); refine blk_far ?_ NB216_224.1 _; exact pbk BK216.1⟩, ⟨by (with_reducible repeat (first | refine blk_drewN ?_ _ | refine blk_drew ?_ | refine blk_alloc ?_ _)); refine blk_far ?_ NB217_224.1 _; exact pbk BK217.1⟩, ⟨by (with_reducible repeat (first | refine blk_drewN ?_ _ | refine blk_drew ?_ | refine blk_alloc ?_ _)); refine blk_put (cs := #[.string a0_0, u225001, .slice none 0 0]) ?_ 1 _ rfl; exact pbk BK224.1⟩, ⟨pbg⟩⟩
  rw [if_pos c30] at H
  have c30b0 : (x37_1 == t222) = true := beq_iff_eq.mpr c30
  have c30b1 : (x37_1 != t222) = false := bne_eq_false_iff_eq.mpr c30
  clear c30
  replace H := ifp H
  obtain ⟨c31, H⟩ := H
  have LMc31 := am c31
  clear c31
  obtain ⟨y227, hy227⟩ : ∃ y_ : List (S52), y_ = (x225001_1 ++ [(⟨(rd_T52 l0_1 x37_1).f0, 1, (rd_T52 l0_1 x37_1).f2⟩ : S52)]) := ⟨_, rfl⟩
  replace H : (workflow_Prepare.l0 k1 t222 l0_1 (l0_1.length : Int) (wrap64 (x37_1 + 1)) a0_0 l0_1 l0_2 a0_0 y227) = some (r1, r2, r3, r4) := hrp hy227 H
  have Ny227 := am hy227
  clear hy227
  have H' := am H
  clear H
  obtain ⟨p225, q225, ad225, e225, hx225_0, hx225_1, hx225_2⟩ := bT52 HR0_1.1 HB.1 x37_1
  cases e225
  go_wp2_with (first | ((with_reducible refine gate_dst (N := 10) rfl ?_); refine box_ev (N := 10) (cs := #[.string (⟨#[]⟩ : ByteArray), .int .i64 0, .int .i64 0]) (t := 52) ?_; intro gb226 hg w32 hbox hb; have BK226 := am hbox; have GW226 := gwb hg; have GE226 := GW226; have NB216_226 := nlt hg BK216; have NB226_216 := ngt hg BK216; have NB217_226 := nlt hg BK217; have NB226_217 := ngt hg BK217; have NB224_226 := nlt hg BK224; have NB226_224 := ngt hg BK224; replace HO_225001 := am (Kd.R_below (Kd.R_elderB (pkr HO_225001.1) gb226 (Nat.le_of_eq hg.symm)) hb); replace BK216 := bbh BK216 hb; replace BK217 := bbh BK217 hb; replace BK224 := bbh BK224 hb; replace HB := bst hb; clear hb hbox hg; have hnb33 := NB226_216.1; have hnc33 := NB216_226.1; have hnb34 := NB226_217.1; have hnc34 := NB217_226.1; have hnb35 := NB226_224.1; have hnc35 := NB224_226.1; obtain ⟨z36_0, z36_1, z36_2, y36_0, y36_1, y36_2⟩ := cf3 BK226.1; have hnb37 := NB224_216.1; have hnc37 := NB216_224.1; have hnb38 := NB224_217.1; have hnc38 := NB217_224.1; obtain ⟨z39_0, z39_1, z39_2, y39_0, y39_1, y39_2⟩ := cf3 BK224.1) | ((with_reducible refine gate_builtin (b := .append) (xs := #[.tmp 48, .tmp 50]) rfl ?_); at_builtin; refine Kd.R_append k52 (w0 := w) w.heap.size rfl (.tmp 48) (.tmp 50) 22 52 (.agg #[(.string ⟨#[]⟩), (.int .i64 0), (.int .i64 0)]) 32 rfl Try.underlying22 info52 rfl (by decide) (by omega) u225001 x225001_1 (⟨(rd_T52 l0_1 x37_1).f0, 1, (rd_T52 l0_1 x37_1).f2⟩ : S52) [.string ((rd_T52 l0_1 x37_1).f0), .int .i64 1, .int .i64 ((rd_T52 l0_1 x37_1).f2)] (fun k_ => k_ ≠ gb226) (fun _ => False) rfl (by first | (go_simp; done) | (go_simp; rfl)) ?aP (fun _ hk => hk.elim) ?aF ?aO ?aB ?aS ?aL ?_; (case aP => exact k52_mkM _ _ _ (⟨(rd_T52 l0_1 x37_1).f0, 1, (rd_T52 l0_1 x37_1).f2⟩ : S52)); (case aB => exact pbg); (case aF => exact (fun k_ hk => Kd.freshB (g := gb226) (o := .cells #[.string ((rd_T52 l0_1 x37_1).f0), .int .i64 1, .int .i64 ((rd_T52 l0_1 x37_1).f2)] 52 (0, 0)) (by (with_reducible repeat (first | refine blk_drewN ?_ _ | refine blk_drew ?_ | refine blk_alloc ?_ _)); refine blk_put (cs := #[.string ((rd_T52 l0_1 x37_1).f0), .int .i64 0, .int .i64 ((rd_T52 l0_1 x37_1).f2)]) ?_ 1 _ rfl; (with_reducible repeat (first | refine blk_drewN ?_ _ | refine blk_drew ?_ | refine blk_alloc ?_ _)); refine blk_put (cs := #[.string ((rd_T52 l0_1 x37_1).f0), .int .i64 ((rd_T52 l0_1 x37_1).f1), .int .i64 ((rd_T52 l0_1 x37_1).f2)]) ?_ 1 _ rfl; (with_reducible repeat (first | refine blk_drewN ?_ _ | refine blk_drew ?_ | refine blk_alloc ?_ _)); exact bp3 (pbk BK226.1)) k_ hk)); (case aO => exact (by (with_reducible repeat (first | apply Kd.R_alloc | apply Kd.R_drewN | apply Kd.R_drew)); exact Kd.R_mono (Kd.R_far (p := ⟨gb226, 1, none⟩) (Kd.R_far (p := ⟨gb226, 1, none⟩) (Kd.R_far (p := ⟨gb226, 2, none⟩) (Kd.R_far (p := ⟨gb226, 1, none⟩) (Kd.R_far (p := ⟨gb226, 0, none⟩) (Kd.R_mono HO_225001.1 (fun k_ hk => (⟨hk, hk.2⟩ : _ ∧ k_ ≠ gb226))) (fun _ hk => hk.2) (.string ((rd_T52 l0_1 x37_1).f0))) (fun _ hk => hk.2) (.int .i64 ((rd_T52 l0_1 x37_1).f1))) (fun _ hk => hk.2) (.int .i64 ((rd_T52 l0_1 x37_1).f2))) (fun _ hk => hk.2) (.int .i64 0)) (fun _ hk => hk.2) (.int .i64 1)) (fun _ hk => hk.1.2))); (case aS => exact (below_size pbg)); (case aL => have := LMc31.1; omega); intro v228 w40 ho hb hg hat; rw [← Ny227.1] at ho; have HO229 := am ho; replace BK216 := am (blk_grown (g := gb216) (o := .cells #[.string a0_0, .slice (some ad225) l0_1.length c0_1, .slice A0_2 l0_2.length c0_2] 25 (0, 0)) (by (with_reducible repeat (first | refine blk_drewN ?_ _ | refine blk_drew ?_ | refine blk_alloc ?_ _)); refine bf5 ?_ NB216_226.1; exact pbk BK216.1) hg (Kd.R_ne HO_225001.1 BK216.1 (by decide))); replace BK217 := am (blk_grown (g := gb217) (o := .cells #[.string (⟨#[]⟩ : ByteArray), .slice none 0 0, .slice none 0 0] 25 (0, 0)) (by (with_reducible repeat (first | refine blk_drewN ?_ _ | refine blk_drew ?_ | refine blk_alloc ?_ _)); refine bf5 ?_ NB217_226.1; exact pbk BK217.1) hg (Kd.R_ne HO_225001.1 BK217.1 (by decide))); replace BK224 := am (blk_grown (g := gb224) (o := .cells #[.string a0_0, u225001, .slice none 0 0] 25 (0, 0)) (by (with_reducible repeat (first | refine blk_drewN ?_ _ | refine blk_drew ?_ | refine blk_alloc ?_ _)); refine bf5 ?_ NB224_226.1; exact pbk BK224.1) hg (Kd.R_ne HO_225001.1 BK224.1 (by decide))); replace BK226 := am (blk_grown (g := gb226) (o := .cells #[.string ((rd_T52 l0_1 x37_1).f0), .int .i64 1, .int .i64 ((rd_T52 l0_1 x37_1).f2)] 52 (0, 0)) (by (with_reducible repeat (first | refine blk_drewN ?_ _ | refine blk_drew ?_ | refine blk_alloc ?_ _)); refine blk_put (cs := #[.string ((rd_T52 l0_1 x37_1).f0), .int .i64 0, .int .i64 ((rd_T52 l0_1 x37_1).f2)]) ?_ 1 _ rfl; (with_reducible repeat (first | refine blk_drewN ?_ _ | refine blk_drew ?_ | refine blk_alloc ?_ _)); refine blk_put (cs := #[.string ((rd_T52 l0_1 x37_1).f0), .int .i64 ((rd_T52 l0_1 x37_1).f1), .int .i64 ((rd_T52 l0_1 x37_1).f2)]) ?_ 1 _ rfl; (with_reducible repeat (first | refine blk_drewN ?_ _ | refine blk_drew ?_ | refine blk_alloc ?_ _)); exact bp3 (pbk BK226.1)) hg (Kd.R_away HO_225001.1 (fun _ hk => hk.2))); replace HB := am hb; clear HO_225001; clear ho hb hg hat; obtain ⟨Ao41, co41, eo41⟩ := Kd.R_slice HO229.1; subst eo41; obtain ⟨z42_0, z42_1, z42_2, y42_0, y42_1, y42_2⟩ := cf3 BK224.1))
  go_roundg k1
  case measure => have := HK1.1; omega
  case rel => exact ⟨(wrap64 (x37_1 + 1)), (y227), (.slice Ao41 y227.length co41), prs, H', ⟨by have := HK1.1; omega⟩, ⟨by (with_reducible repeat (first | apply Kd.R_alloc | apply Kd.R_drewN | apply Kd.R_drew)); exact Kd.R_mono (Kd.R_far (p := ⟨gb224, 1, none⟩) (Kd.R_types HO229.1 BK224.1 (by decide)) (fun _ hk => hk.2) _) (fun _ hk => trivial)⟩, ⟨by (with_reducible repeat (first | refine blk_drewN ?_ _ | refine blk_drew ?_ | refine blk_alloc ?_ _)); refine blk_far ?_ NB216_224.1 _; exact pbk BK216.1⟩, ⟨by (with_reducible repeat (first | refine blk_drewN ?_ _ | refine blk_drew ?_ | refine blk_alloc ?_ _)); refine blk_far ?_ NB217_224.1 _; exact pbk BK217.1⟩, ⟨by (with_reducible repeat (first | refine blk_drewN ?_ _ | refine blk_drew ?_ | refine blk_alloc ?_ _)); refine blk_put (cs := #[.string a0_0, u225001, .slice none 0 0]) ?_ 1 _ rfl; exact pbk BK224.1⟩, ⟨pbg⟩⟩
 rw [if_neg c27] at H
 have c27b0 : decide (x37_1 < (l0_1.length : Int)) = false := decide_eq_false c27
 clear c27
 have H' := am H
 clear H
 have hnb55 := NB216_217.1
 have hnc55 := NB217_216.1
 have hnb56 := NB216_224.1
 have hnc56 := NB224_216.1
 obtain ⟨z57_0, z57_1, z57_2, y57_0, y57_1, y57_2⟩ := cf3 BK216.1
 go_wp2
 go_loopg [57] k1 (fun kq v57 w' => ∃ (x57_2 : Int) (x225002_2 : List (S48)) (u225002 : Value), v57 = .int .i64 x57_2 ∧ Aside0 (workflow_Prepare.l1 kq l0_2 (l0_2.length : Int) x57_2 a0_0 x225001_1 x225002_2 = some (r1, r2, r3, r4)) ∧ Aside0 (kq ≤ k1) ∧ Aside0 (Kd.R k52 52 w' w.heap.size (fun _ => True) u225001 x225001_1) ∧ Aside0 (Kd.S k48 48 w' w.heap.size (fun _ => True) u225002 x225002_2) ∧ Aside0 (w'.heap[gb216]? = some (.cells #[.string a0_0, (.slice A0_1 l0_1.length c0_1), (.slice A0_2 l0_2.length c0_2)] 25 (0, 0))) ∧ Aside0 (w'.heap[gb217]? = some (.cells #[.string (⟨#[]⟩ : ByteArray), (.slice none 0 0), (.slice none 0 0)] 25 (0, 0))) ∧ Aside0 (w'.heap[gb224]? = some (.cells #[.string a0_0, u225001, u225002] 25 (0, 0))) ∧ Aside0 (Below w.heap.size w w'))
 case atStart => exact ⟨(0), (([] : List (S48))), (.slice none 0 0), prs, H', ⟨Nat.le_refl _⟩, ⟨pkr HO_225001.1⟩, ⟨knl⟩, ⟨pbk BK216.1⟩, ⟨pbk BK217.1⟩, ⟨pbk BK224.1⟩, ⟨pbg⟩⟩
 clear H'
 try clear c3 c3b0 c3b1 c4 c4b0 c4b1 c27 c27b0 c28 c28b0 c29 c29b0 c30 c30b0 c30b1 c31 c43 z11_0 z11_1 z11_2 z16_0 z16_1 z16_2 z19_0 z19_1 z19_2 z21_0 z21_1 z21_2 z25_0 z25_1 z25_2 z26_0 z26_1 z26_2 z36_0 z36_1 z36_2 z39_0 z39_1 z39_2 z42_0 z42_1 z42_2 z48_0 z48_1 z48_2 z51_0 z51_1 z51_2 z54_0 z54_1 z54_2 z57_0 z57_1 z57_2 z8_0 z8_1 z8_2 y11_0 y11_1 y11_2 y16_0 y16_1 y16_2 y19_0 y19_1 y19_2 y21_0 y21_1 y21_2 y25_0 y25_1 y25_2 y26_0 y26_1 y26_2 y36_0 y36_1 y36_2 y39_0 y39_1 y39_2 y42_0 y42_1 y42_2 y48_0 y48_1 y48_2 y51_0 y51_1 y51_2 y54_0 y54_1 y54_2 y57_0 y57_1 y57_2 y8_0 y8_1 y8_2 hx225_0 hx225_1 hx225_2 p225 q225
 obtain ⟨x57_2, x225002_2, u225002, rfl, HA, HK2, HO_225001, HO_225002, BK216, BK217, BK224, HB⟩ := hrel
 obtain _ | k2 := gk
 ·exact absurd HA.1 (by simp [workflow_Prepare.l1])
 have H := HA.1
 clear HA
 simp only [workflow_Prepare.l1] at H
 by_cases c58 : x57_2 < (l0_2.length : Int)
 rotate_left
 ·rw [if_neg c58] at H
  have c58b0 : decide (x57_2 < (l0_2.length : Int)) = false := decide_eq_false c58
  clear c58
  simp only [Option.some.injEq, Prod.mk.injEq] at H
  obtain ⟨rfl, rfl, rfl, rfl⟩ := H
  have hnb86 := NB224_216.1
  have hnc86 := NB216_224.1
  have hnb87 := NB224_217.1
  have hnc87 := NB217_224.1
  obtain ⟨z88_0, z88_1, z88_2, y88_0, y88_1, y88_2⟩ := cf3 BK224.1
  have hnb89 := NB217_216.1
  have hnc89 := NB216_217.1
  obtain ⟨z90_0, z90_1, z90_2, y90_0, y90_1, y90_2⟩ := cf3 BK217.1
  obtain ⟨Ao91, co91, eo91⟩ := Kd.R_slice HO_225001.1
  subst eo91
  obtain ⟨Ao92, co92, eo92⟩ := Kd.S_slice HO_225002.1
  subst eo92
  go_wp2
  refine bodyPost_ret (results_ct rfl _ _ gb217 25 #[.string a0_0, .slice Ao91 x225001_1.length co91, .slice Ao92 x225002_2.length co92] (0, 0) _ rfl (by (with_reducible repeat (first | refine blk_drewN ?_ _ | refine blk_drew ?_ | refine blk_alloc ?_ _)); exact bp3 (pbk BK217.1)) Try.underlying25 rfl (by kernel_rfl)) rfl ?_
  exact ⟨_, _, per, by (with_reducible repeat (first | apply Kd.R_alloc | apply Kd.R_drewN | apply Kd.R_drew)); exact Kd.R_mono (Kd.R_far (p := ⟨gb217, 2, none⟩) (Kd.R_far (p := ⟨gb217, 1, none⟩) (Kd.R_far (p := ⟨gb217, 0, none⟩) (Kd.R_types HO_225001.1 BK217.1 (by decide)) (fun _ hk => hk.2) _) (fun _ hk => hk.2) _) (fun _ hk => hk.2) _) (fun _ hk => trivial), by (with_reducible repeat (first | apply Kd.S_alloc | apply Kd.S_drewN | apply Kd.S_drew)); exact Kd.S_mono (Kd.S_far (p := ⟨gb217, 2, none⟩) (Kd.S_far (p := ⟨gb217, 1, none⟩) (Kd.S_far (p := ⟨gb217, 0, none⟩) (Kd.S_types HO_225002.1 BK217.1 (by decide)) (fun _ hk => hk.2) _) (fun _ hk => hk.2) _) (fun _ hk => hk.2) _) (fun _ hk => trivial), pbg⟩
 rw [if_pos c58] at H
 have c58b0 : decide (x57_2 < (l0_2.length : Int)) = true := decide_eq_true c58
 clear c58
 replace H := ifp H
 obtain ⟨c59, H⟩ := H
 have c59b0 := decide_eq_true c59
 clear c59
 replace H := ifp H
 obtain ⟨c60, H⟩ := H
 have c60b0 := decide_eq_true c60
 clear c60
 replace H := bnd H
 obtain ⟨t235, A61, H⟩ := H
 (try dsimp only at H)
 replace H := bnd H
 obtain ⟨t238, A62, H⟩ := H
 (try dsimp only at H)
 replace H := ifp H
 obtain ⟨c63, H⟩ := H
 have LMc63 := am c63
 clear c63
 obtain ⟨y241, hy241⟩ : ∃ y_ : List (S48), y_ = (x225002_2 ++ [(⟨(rd_T48 l0_2 x57_2).f0, t235, t238, ([] : List (S55)), (rd_T48 l0_2 x57_2).f4⟩ : S48)]) := ⟨_, rfl⟩
 replace H : (workflow_Prepare.l1 k2 l0_2 (l0_2.length : Int) (wrap64 (x57_2 + 1)) a0_0 x225001_1 y241) = some (r1, r2, r3, r4) := hrp hy241 H
 have Ny241 := am hy241
 clear hy241
 have H' := am H
 clear H
 obtain ⟨p233, q233, ad233, A233_1, c233_1, A233_2, c233_2, A233_3, c233_3, e233, hx233_0, hx233_1, hx233_2, hx233_3, hx233_4, HC233_1, HR233_1, HC233_2, HR233_2, HC233_3, HR233_3⟩ := bT48 HR0_2.1 HB.1 x57_2
 cases e233
 try go_wp2_with (first | ((with_reducible refine gate_dst (N := 12) rfl ?_); refine box_ev (N := 12) (cs := #[.string (⟨#[]⟩ : ByteArray), .slice none 0 0, .slice none 0 0, .slice none 0 0, .int .i64 0]) (t := 48) ?_; intro gb234 hg w64 hbox hb; have BK234 := am hbox; have GW234 := gwb hg; have GE234 := GW234; have NB216_234 := nlt hg BK216; have NB234_216 := ngt hg BK216; have NB217_234 := nlt hg BK217; have NB234_217 := ngt hg BK217; have NB224_234 := nlt hg BK224; have NB234_224 := ngt hg BK224; replace HO_225001 := rbw HO_225001 hb; replace HO_225002 := am (Kd.S_below (Kd.S_elderB (pks HO_225002.1) gb234 (Nat.le_of_eq hg.symm)) hb); replace BK216 := bbh BK216 hb; replace BK217 := bbh BK217 hb; replace BK224 := bbh BK224 hb; replace HB := bst hb; clear hb hbox hg; have hnb65 := NB234_216.1; have hnc65 := NB216_234.1; have hnb66 := NB234_217.1; have hnc66 := NB217_234.1; have hnb67 := NB234_224.1; have hnc67 := NB224_234.1; obtain ⟨z68_0, z68_1, z68_2, z68_3, z68_4, y68_0, y68_1, y68_2, y68_3, y68_4⟩ := cf5 BK234.1))
 have n0_ : Aside0 (Kd.R k52 52 (((((w64.setCell ⟨gb234, 0, none⟩ (.string ((rd_T48 l0_2 x57_2).f0))).setCell ⟨gb234, 1, none⟩ (.slice A233_1 ((rd_T48 l0_2 x57_2).f1).length c233_1)).setCell ⟨gb234, 2, none⟩ (.slice A233_2 ((rd_T48 l0_2 x57_2).f2).length c233_2)).setCell ⟨gb234, 3, none⟩ (.slice A233_3 ((rd_T48 l0_2 x57_2).f3).length c233_3)).setCell ⟨gb234, 4, none⟩ (.int .i64 ((rd_T48 l0_2 x57_2).f4))) w.heap.size (fun _ => True) u225001 x225001_1) := ⟨by (with_reducible repeat (first | apply Kd.R_alloc | apply Kd.R_drewN | apply Kd.R_drew)); exact Kd.R_mono (Kd.R_far (p := ⟨gb234, 4, none⟩) (Kd.R_far (p := ⟨gb234, 3, none⟩) (Kd.R_far (p := ⟨gb234, 2, none⟩) (Kd.R_far (p := ⟨gb234, 1, none⟩) (Kd.R_far (p := ⟨gb234, 0, none⟩) (Kd.R_types HO_225001.1 BK234.1 (by decide)) (fun _ hk => hk.2) (.string ((rd_T48 l0_2 x57_2).f0))) (fun _ hk => hk.2) (.slice A233_1 ((rd_T48 l0_2 x57_2).f1).length c233_1)) (fun _ hk => hk.2) (.slice A233_2 ((rd_T48 l0_2 x57_2).f2).length c233_2)) (fun _ hk => hk.2) (.slice A233_3 ((rd_T48 l0_2 x57_2).f3).length c233_3)) (fun _ hk => hk.2) (.int .i64 ((rd_T48 l0_2 x57_2).f4))) (fun _ hk => trivial)⟩
 have n1_ : Aside0 (Kd.S k48 48 (((((w64.setCell ⟨gb234, 0, none⟩ (.string ((rd_T48 l0_2 x57_2).f0))).setCell ⟨gb234, 1, none⟩ (.slice A233_1 ((rd_T48 l0_2 x57_2).f1).length c233_1)).setCell ⟨gb234, 2, none⟩ (.slice A233_2 ((rd_T48 l0_2 x57_2).f2).length c233_2)).setCell ⟨gb234, 3, none⟩ (.slice A233_3 ((rd_T48 l0_2 x57_2).f3).length c233_3)).setCell ⟨gb234, 4, none⟩ (.int .i64 ((rd_T48 l0_2 x57_2).f4))) w.heap.size (fun k_ => k_ ≠ gb234) u225002 x225002_2) := ⟨by (with_reducible repeat (first | apply Kd.S_alloc | apply Kd.S_drewN | apply Kd.S_drew)); exact Kd.S_mono (Kd.S_far (p := ⟨gb234, 4, none⟩) (Kd.S_far (p := ⟨gb234, 3, none⟩) (Kd.S_far (p := ⟨gb234, 2, none⟩) (Kd.S_far (p := ⟨gb234, 1, none⟩) (Kd.S_far (p := ⟨gb234, 0, none⟩) (Kd.S_mono HO_225002.1 (fun k_ hk => (⟨hk, hk.2⟩ : _ ∧ k_ ≠ gb234))) (fun _ hk => hk.2) (.string ((rd_T48 l0_2 x57_2).f0))) (fun _ hk => hk.2) (.slice A233_1 ((rd_T48 l0_2 x57_2).f1).length c233_1)) (fun _ hk => hk.2) (.slice A233_2 ((rd_T48 l0_2 x57_2).f2).length c233_2)) (fun _ hk => hk.2) (.slice A233_3 ((rd_T48 l0_2 x57_2).f3).length c233_3)) (fun _ hk => hk.2) (.int .i64 ((rd_T48 l0_2 x57_2).f4))) (fun _ hk => hk.1.2)⟩
 have n2_ : Aside0 ((((((w64.setCell ⟨gb234, 0, none⟩ (.string ((rd_T48 l0_2 x57_2).f0))).setCell ⟨gb234, 1, none⟩ (.slice A233_1 ((rd_T48 l0_2 x57_2).f1).length c233_1)).setCell ⟨gb234, 2, none⟩ (.slice A233_2 ((rd_T48 l0_2 x57_2).f2).length c233_2)).setCell ⟨gb234, 3, none⟩ (.slice A233_3 ((rd_T48 l0_2 x57_2).f3).length c233_3)).setCell ⟨gb234, 4, none⟩ (.int .i64 ((rd_T48 l0_2 x57_2).f4))).heap[gb216]? = some (.cells #[.string a0_0, .slice A0_1 l0_1.length c0_1, .slice (some ad233) l0_2.length c0_2] 25 (0, 0))) := ⟨by (with_reducible repeat (first | refine blk_drewN ?_ _ | refine blk_drew ?_ | refine blk_alloc ?_ _)); refine bf5 ?_ NB216_234.1; exact pbk BK216.1⟩
 have n3_ : Aside0 ((((((w64.setCell ⟨gb234, 0, none⟩ (.string ((rd_T48 l0_2 x57_2).f0))).setCell ⟨gb234, 1, none⟩ (.slice A233_1 ((rd_T48 l0_2 x57_2).f1).length c233_1)).setCell ⟨gb234, 2, none⟩ (.slice A233_2 ((rd_T48 l0_2 x57_2).f2).length c233_2)).setCell ⟨gb234, 3, none⟩ (.slice A233_3 ((rd_T48 l0_2 x57_2).f3).length c233_3)).setCell ⟨gb234, 4, none⟩ (.int .i64 ((rd_T48 l0_2 x57_2).f4))).heap[gb217]? = some (.cells #[.string (⟨#[]⟩ : ByteArray), .slice none 0 0, .slice none 0 0] 25 (0, 0))) := ⟨by (with_reducible repeat (first | refine blk_drewN ?_ _ | refine blk_drew ?_ | refine blk_alloc ?_ _)); refine bf5 ?_ NB217_234.1; exact pbk BK217.1⟩
 have n4_ : Aside0 ((((((w64.setCell ⟨gb234, 0, none⟩ (.string ((rd_T48 l0_2 x57_2).f0))).setCell ⟨gb234, 1, none⟩ (.slice A233_1 ((rd_T48 l0_2 x57_2).f1).length c233_1)).setCell ⟨gb234, 2, none⟩ (.slice A233_2 ((rd_T48 l0_2 x57_2).f2).length c233_2)).setCell ⟨gb234, 3, none⟩ (.slice A233_3 ((rd_T48 l0_2 x57_2).f3).length c233_3)).setCell ⟨gb234, 4, none⟩ (.int .i64 ((rd_T48 l0_2 x57_2).f4))).heap[gb224]? = some (.cells #[.string a0_0, u225001, u225002] 25 (0, 0))) := ⟨by (with_reducible repeat (first | refine blk_drewN ?_ _ | refine blk_drew ?_ | refine blk_alloc ?_ _)); refine bf5 ?_ NB224_234.1; exact pbk BK224.1⟩
 have n5_ : Aside0 ((((((w64.setCell ⟨gb234, 0, none⟩ (.string ((rd_T48 l0_2 x57_2).f0))).setCell ⟨gb234, 1, none⟩ (.slice A233_1 ((rd_T48 l0_2 x57_2).f1).length c233_1)).setCell ⟨gb234, 2, none⟩ (.slice A233_2 ((rd_T48 l0_2 x57_2).f2).length c233_2)).setCell ⟨gb234, 3, none⟩ (.slice A233_3 ((rd_T48 l0_2 x57_2).f3).length c233_3)).setCell ⟨gb234, 4, none⟩ (.int .i64 ((rd_T48 l0_2 x57_2).f4))).heap[gb234]? = some (.cells #[.string ((rd_T48 l0_2 x57_2).f0), .slice A233_1 ((rd_T48 l0_2 x57_2).f1).length c233_1, .slice A233_2 ((rd_T48 l0_2 x57_2).f2).length c233_2, .slice A233_3 ((rd_T48 l0_2 x57_2).f3).length c233_3, .int .i64 ((rd_T48 l0_2 x57_2).f4)] 48 (0, 0))) := ⟨by (with_reducible repeat (first | refine blk_drewN ?_ _ | refine blk_drew ?_ | refine blk_alloc ?_ _)); exact bp5 (pbk BK234.1)⟩
 have n6_ : Aside0 (Below w.heap.size w (((((w64.setCell ⟨gb234, 0, none⟩ (.string ((rd_T48 l0_2 x57_2).f0))).setCell ⟨gb234, 1, none⟩ (.slice A233_1 ((rd_T48 l0_2 x57_2).f1).length c233_1)).setCell ⟨gb234, 2, none⟩ (.slice A233_2 ((rd_T48 l0_2 x57_2).f2).length c233_2)).setCell ⟨gb234, 3, none⟩ (.slice A233_3 ((rd_T48 l0_2 x57_2).f3).length c233_3)).setCell ⟨gb234, 4, none⟩ (.int .i64 ((rd_T48 l0_2 x57_2).f4)))) := ⟨pbg⟩
 (try clear HO_225001)
 (try clear HO_225002)
 (try clear BK216)
 (try clear BK217)
 (try clear BK224)
 (try clear BK234)
 (try clear HB)
 generalize (((((w64.setCell ⟨gb234, 0, none⟩ (.string ((rd_T48 l0_2 x57_2).f0))).setCell ⟨gb234, 1, none⟩ (.slice A233_1 ((rd_T48 l0_2 x57_2).f1).length c233_1)).setCell ⟨gb234, 2, none⟩ (.slice A233_2 ((rd_T48 l0_2 x57_2).f2).length c233_2)).setCell ⟨gb234, 3, none⟩ (.slice A233_3 ((rd_T48 l0_2 x57_2).f3).length c233_3)).setCell ⟨gb234, 4, none⟩ (.int .i64 ((rd_T48 l0_2 x57_2).f4))) = w69 at n0_ n1_ n2_ n3_ n4_ n5_ n6_ ⊢
 have HO_225001 := n0_
 have HO_225002 := n1_
 have BK216 := n2_
 have BK217 := n3_
 have BK224 := n4_
 have BK234 := n5_
 have HB := n6_
 clear n0_ n1_ n2_ n3_ n4_ n5_ n6_
 replace HO_225001 := am (Kd.R_drew HO_225001.1)
 replace HO_225002 := am (Kd.S_drew HO_225002.1)
 replace BK216 := am (blk_drew BK216.1)
 replace BK217 := am (blk_drew BK217.1)
 replace BK224 := am (blk_drew BK224.1)
 replace BK234 := am (blk_drew BK234.1)
 replace HB := am (below_drew1 HB.1)
 refine start_ (n := 12) (S := fun w' => w'.cell? ⟨gb234, 0, none⟩ = some (.string ((rd_T48 l0_2 x57_2).f0)) ∧ w'.cell? ⟨gb234, 1, none⟩ = some (.slice A233_1 ((rd_T48 l0_2 x57_2).f1).length c233_1) ∧ w'.cell? ⟨gb234, 2, none⟩ = some (.slice A233_2 ((rd_T48 l0_2 x57_2).f2).length c233_2) ∧ w'.cell? ⟨gb234, 3, none⟩ = some (.slice A233_3 ((rd_T48 l0_2 x57_2).f3).length c233_3) ∧ w'.cell? ⟨gb234, 4, none⟩ = some (.int .i64 ((rd_T48 l0_2 x57_2).f4))) (ds := [7, 9, 11]) #[false, false, false, false, false, false, false, false, false, false, false, false] (by kernel_rfl) rfl rfl ⟨(blk_cell BK234.1 0).trans rfl, (blk_cell BK234.1 1).trans rfl, (blk_cell BK234.1 2).trans rfl, (blk_cell BK234.1 3).trans rfl, (blk_cell BK234.1 4).trans rfl⟩ (fun hHeld => ?_); refine with_tabW workflow_Prepare.tab19 workflow_Prepare.bits19 (fun HT_ HW_ => ?_)
 generalize w69.drew = w70 at HO_225001 HO_225002 BK216 BK217 BK224 BK234 HB hHeld ⊢
 refine pure_ (i := 0) (N := some 61) (v := ?_) (a' := ?_) #[true, false, false, false, false, false, false, false, false, false, false, false] rfl rfl (any_of HT_.1 (by kernel_rfl)) (fun _ _ _ h => h) (Or.inl ⟨by rfl, ?_⟩) ?_ ?_
 rotate_left
 ·intro w'
  go_simp
  with_reducible rfl
 rotate_left
 ·simp only [Act.put, List.setIfInBounds_toArray, List.set_cons_zero, List.set_cons_succ, i64_w, i32_w]
  rfl
 refine pure_ (i := 3) (N := some 64) (v := ?_) (a' := ?_) #[true, false, false, true, false, false, false, false, false, false, false, false] rfl rfl (any_of HT_.1 (by kernel_rfl)) (fun _ _ _ h => h) (Or.inl ⟨by rfl, ?_⟩) ?_ ?_
 rotate_left
 ·intro w'
  go_simp
  with_reducible rfl
 rotate_left
 ·simp only [Act.put, List.setIfInBounds_toArray, List.set_cons_zero, List.set_cons_succ, i64_w, i32_w]
  rfl
 refine take_ (i := 1) (N := some 62) (v := ?_) (a' := ?_) #[true, true, false, true, false, false, false, false, false, false, false, false] rfl rfl (take_ofW HT_.1 HW_.1 (by kernel_rfl)) (fun _ _ _ h => h) (Or.inl ⟨by rfl, ?_⟩) hHeld ?_ ?_
 rotate_left
 ·rintro w' ⟨s0, s1, s2, s3, s4⟩
  go_simp
  with_reducible rfl
 rotate_left
 ·simp only [Act.put, List.setIfInBounds_toArray, List.set_cons_zero, List.set_cons_succ, i64_w, i32_w]
  rfl
 refine take_ (i := 4) (N := some 65) (v := ?_) (a' := ?_) #[true, true, false, true, true, false, false, false, false, false, false, false] rfl rfl (take_ofW HT_.1 HW_.1 (by kernel_rfl)) (fun _ _ _ h => h) (Or.inl ⟨by rfl, ?_⟩) hHeld ?_ ?_
 rotate_left
 ·rintro w' ⟨s0, s1, s2, s3, s4⟩
  go_simp
  with_reducible rfl
 rotate_left
 ·simp only [Act.put, List.setIfInBounds_toArray, List.set_cons_zero, List.set_cons_succ, i64_w, i32_w]
  rfl
 refine one_ (i := 2) (N := some 63) #[true, true, true, true, true, false, false, false, false, false, false, false] rfl rfl (one_of HT_.1 (by kernel_rfl)) (by decide) (fun K hK => ?_)
 refine goes_ Try.func44 (by kernel_rfl) rfl #[.slice A233_1 ((rd_T48 l0_2 x57_2).f1).length c233_1] (by rfl) rfl rfl pgz ?_
 with_reducible refine (workflow_arcs.calls _ _ ((rd_T48 l0_2 x57_2).f1) t235 _ ?side1 ?side2 A61.1).mono ?_
 (case side1 => exact csb HR233_1 HB)
 (case side2 => exact HC233_1.1)
 rintro e w71 ⟨v236, rfl, ho0, hb⟩
 refine ⟨_, rfl, ?_⟩
 have HO237 := am (Kd.R_lower ho0 (below_size pbg))
 replace HO_225001 := rbw HO_225001 hb
 replace HO_225002 := am (Kd.S_elder' (pks HO_225002.1) (Kd.R_base ho0) hb)
 replace BK216 := bbh BK216 hb
 replace BK217 := bbh BK217 hb
 replace BK224 := bbh BK224 hb
 replace BK234 := bbh BK234 hb
 replace HB := bst hb
 (try clear hb)
 (try clear hb2)
 (try clear hk)
 (try clear hi)
 (try clear ho0)
 refine hK.out _ _ ⟨(blk_cell BK234.1 0).trans rfl, (blk_cell BK234.1 1).trans rfl, (blk_cell BK234.1 2).trans rfl, (blk_cell BK234.1 3).trans rfl, (blk_cell BK234.1 4).trans rfl⟩ (fun hHeld => ?_)
 clear hK K
 refine norm_ (a' := ?_) ?_ ?_
 rotate_left
 ·show Act.put _ (some 63) _ = _
  simp only [Act.put, List.setIfInBounds_toArray, List.set_cons_zero, List.set_cons_succ, i64_w, i32_w]
  rfl
 refine pure_ (i := 6) (N := some 67) (v := ?_) (a' := ?_) #[true, true, true, true, true, false, true, false, false, false, false, false] rfl rfl (any_of HT_.1 (by kernel_rfl)) (fun _ _ _ h => h) (Or.inl ⟨by rfl, ?_⟩) ?_ ?_
 rotate_left
 ·intro w'
  go_simp
  with_reducible rfl
 rotate_left
 ·simp only [Act.put, List.setIfInBounds_toArray, List.set_cons_zero, List.set_cons_succ, i64_w, i32_w]
  rfl
 refine one_ (i := 5) (N := some 66) #[true, true, true, true, true, true, true, false, false, false, false, false] rfl rfl (one_of HT_.1 (by kernel_rfl)) (by decide) (fun K hK => ?_)
 refine goes_ Try.func44 (by kernel_rfl) rfl #[.slice A233_2 ((rd_T48 l0_2 x57_2).f2).length c233_2] (by rfl) rfl rfl pgz ?_
 with_reducible refine (workflow_arcs.calls _ _ ((rd_T48 l0_2 x57_2).f2) t238 _ ?side1 ?side2 A62.1).mono ?_
 (case side1 => exact csb HR233_2 HB)
 (case side2 => exact HC233_2.1)
 rintro e w72 ⟨v239, rfl, ho0, hb⟩
 refine ⟨_, rfl, ?_⟩
 have HO240 := am (Kd.R_lower (Kd.R_new' ho0 (Kd.R_lt (pkr HO237.1))) (below_size pbg))
 replace HO_225001 := rbw HO_225001 hb
 replace HO_225002 := am (Kd.S_elder' (pks HO_225002.1) (Kd.R_base ho0) hb)
 replace HO237 := am (Kd.R_elder' (pkr HO237.1) (Kd.R_base ho0) hb)
 replace BK216 := bbh BK216 hb
 replace BK217 := bbh BK217 hb
 replace BK224 := bbh BK224 hb
 replace BK234 := bbh BK234 hb
 replace HB := bst hb
 (try clear hb)
 (try clear hb2)
 (try clear hk)
 (try clear hi)
 (try clear ho0)
 obtain ⟨Ao73, co73, eo73⟩ := Kd.R_slice HO237.1
 (first | subst eo73 | (injection eo73 with f1_ f2_ f3_; have f4_ := f1_.symm; have f5_ := f3_.symm; clear f1_ f2_ f3_; subst f4_; subst f5_))
 obtain ⟨Ao75, co75, eo75⟩ := Kd.R_slice HO240.1
 (first | subst eo75 | (injection eo75 with f1_ f2_ f3_; have f4_ := f1_.symm; have f5_ := f3_.symm; clear f1_ f2_ f3_; subst f4_; subst f5_))
 refine hK.out _ _ ⟨(blk_cell BK234.1 0).trans rfl, (blk_cell BK234.1 1).trans rfl, (blk_cell BK234.1 2).trans rfl, (blk_cell BK234.1 3).trans rfl, (blk_cell BK234.1 4).trans rfl⟩ (fun hHeld => ?_)
 clear hK K
 refine norm_ (a' := ?_) ?_ ?_
 rotate_left
 ·show Act.put _ (some 66) _ = _
  simp only [Act.put, List.setIfInBounds_toArray, List.set_cons_zero, List.set_cons_succ, i64_w, i32_w]
  rfl
 refine last_ (i := 7) (N := none) #[true, true, true, true, true, true, true, true, false, false, false, false] rfl rfl (one_of HT_.1 (by kernel_rfl)) (by decide) (fun K hK => ?_)
 have hs74 : w72.cell? ⟨gb234, 1, none⟩ = some (.slice A233_1 ((rd_T48 l0_2 x57_2).f1).length c233_1) := (blk_cell BK234.1 1).trans rfl
 have hfs74 := blk_frozen BK234.1 1
 have hns74_0 := NB216_234.1
 have hns74_1 := NB217_234.1
 have hns74_2 := NB224_234.1
 have hms74_0 := NB234_216.1
 have hms74_1 := NB234_217.1
 have hms74_2 := NB234_224.1
 refine skip_ (w1 := ?_) (by rfl) rfl ?_ ?_
 rotate_left
 ·go_simp
  rfl
 refine hK.out _ _ ?_
 clear hK K
 refine pure_ (i := 8) (N := some 68) (v := ?_) (a' := ?_) #[true, true, true, true, true, true, true, true, true, false, false, false] rfl rfl (any_of HT_.1 (by kernel_rfl)) (fun _ _ _ h => h) (Or.inl ⟨by rfl, ?_⟩) ?_ ?_
 rotate_left
 ·intro w'
  go_simp
  with_reducible rfl
 rotate_left
 ·simp only [Act.put, List.setIfInBounds_toArray, List.set_cons_zero, List.set_cons_succ, i64_w, i32_w]
  rfl
 refine last_ (i := 9) (N := none) #[true, true, true, true, true, true, true, true, true, true, false, false] rfl rfl (one_of HT_.1 (by kernel_rfl)) (by decide) (fun K hK => ?_)
 have hs76 : w72.cell? ⟨gb234, 2, none⟩ = some (.slice A233_2 ((rd_T48 l0_2 x57_2).f2).length c233_2) := (blk_cell BK234.1 2).trans rfl
 have hfs76 := blk_frozen BK234.1 2
 have hns76_0 := NB216_234.1
 have hns76_1 := NB217_234.1
 have hns76_2 := NB224_234.1
 have hms76_0 := NB234_216.1
 have hms76_1 := NB234_217.1
 have hms76_2 := NB234_224.1
 refine skip_ (w1 := ?_) (by rfl) rfl ?_ ?_
 rotate_left
 ·go_simp
  rfl
 refine hK.out _ _ ?_
 clear hK K
 refine pure_ (i := 10) (N := some 69) (v := ?_) (a' := ?_) #[true, true, true, true, true, true, true, true, true, true, true, false] rfl rfl (any_of HT_.1 (by kernel_rfl)) (fun _ _ _ h => h) (Or.inl ⟨by rfl, ?_⟩) ?_ ?_
 rotate_left
 ·intro w'
  go_simp
  with_reducible rfl
 rotate_left
 ·simp only [Act.put, List.setIfInBounds_toArray, List.set_cons_zero, List.set_cons_succ, i64_w, i32_w]
  rfl
 refine last_ (i := 11) (N := none) #[true, true, true, true, true, true, true, true, true, true, true, true] rfl rfl (one_of HT_.1 (by kernel_rfl)) (by decide) (fun K hK => ?_)
 have hs77 : w72.cell? ⟨gb234, 3, none⟩ = some (.slice A233_3 ((rd_T48 l0_2 x57_2).f3).length c233_3) := (blk_cell BK234.1 3).trans rfl
 have hfs77 := blk_frozen BK234.1 3
 have hns77_0 := NB216_234.1
 have hns77_1 := NB217_234.1
 have hns77_2 := NB224_234.1
 have hms77_0 := NB234_216.1
 have hms77_1 := NB234_217.1
 have hms77_2 := NB234_224.1
 refine skip_ (w1 := ?_) (by rfl) rfl ?_ ?_
 rotate_left
 ·go_simp
  rfl
 refine hK.out _ _ ?_
 clear hK K
 refine done_ (done_of HT_.1 (by kernel_rfl)) ?_
 have n0_ : Aside0 (Kd.R k52 52 (((w72.setCell ⟨gb234, 1, none⟩ (.slice Ao73 t235.length co73)).setCell ⟨gb234, 2, none⟩ (.slice Ao75 t238.length co75)).setCell ⟨gb234, 3, none⟩ (.slice none 0 0)) w.heap.size (fun _ => True) u225001 x225001_1) := ⟨by (with_reducible repeat (first | apply Kd.R_alloc | apply Kd.R_drewN | apply Kd.R_drew)); exact Kd.R_mono (Kd.R_far (p := ⟨gb234, 3, none⟩) (Kd.R_far (p := ⟨gb234, 2, none⟩) (Kd.R_far (p := ⟨gb234, 1, none⟩) (Kd.R_types HO_225001.1 BK234.1 (by decide)) (fun _ hk => hk.2) (.slice Ao73 t235.length co73)) (fun _ hk => hk.2) (.slice Ao75 t238.length co75)) (fun _ hk => hk.2) (.slice none 0 0)) (fun _ hk => trivial)⟩
 have n1_ : Aside0 (Kd.S k48 48 (((w72.setCell ⟨gb234, 1, none⟩ (.slice Ao73 t235.length co73)).setCell ⟨gb234, 2, none⟩ (.slice Ao75 t238.length co75)).setCell ⟨gb234, 3, none⟩ (.slice none 0 0)) w.heap.size (fun k_ => some k_ ≠ (.slice Ao73 t235.length co73 : Value).ownBlock ∧ some k_ ≠ (.slice Ao75 t238.length co75 : Value).ownBlock ∧ k_ ≠ gb234) u225002 x225002_2) := ⟨by (with_reducible repeat (first | apply Kd.S_alloc | apply Kd.S_drewN | apply Kd.S_drew)); exact Kd.S_mono (Kd.S_far (p := ⟨gb234, 3, none⟩) (Kd.S_far (p := ⟨gb234, 2, none⟩) (Kd.S_far (p := ⟨gb234, 1, none⟩) (Kd.S_mono HO_225002.1 (fun k_ hk => (⟨hk, hk.1.1⟩ : _ ∧ k_ ≠ gb234))) (fun _ hk => hk.2) (.slice Ao73 t235.length co73)) (fun _ hk => hk.2) (.slice Ao75 t238.length co75)) (fun _ hk => hk.2) (.slice none 0 0)) (fun _ hk => ⟨hk.1.1.2, ⟨hk.1.2, hk.1.1.1⟩⟩)⟩
 have n2_ : Aside0 (Kd.R k55 55 (((w72.setCell ⟨gb234, 1, none⟩ (.slice Ao73 t235.length co73)).setCell ⟨gb234, 2, none⟩ (.slice Ao75 t238.length co75)).setCell ⟨gb234, 3, none⟩ (.slice none 0 0)) w.heap.size (fun k_ => some k_ ≠ (.slice Ao75 t238.length co75 : Value).ownBlock) (.slice Ao73 t235.length co73) t235) := ⟨by (with_reducible repeat (first | apply Kd.R_alloc | apply Kd.R_drewN | apply Kd.R_drew)); exact Kd.R_mono (Kd.R_far (p := ⟨gb234, 3, none⟩) (Kd.R_far (p := ⟨gb234, 2, none⟩) (Kd.R_far (p := ⟨gb234, 1, none⟩) (Kd.R_types HO237.1 BK234.1 (by decide)) (fun _ hk => hk.2) (.slice Ao73 t235.length co73)) (fun _ hk => hk.2) (.slice Ao75 t238.length co75)) (fun _ hk => hk.2) (.slice none 0 0)) (fun _ hk => hk.1.2)⟩
 have n3_ : Aside0 (Kd.R k55 55 (((w72.setCell ⟨gb234, 1, none⟩ (.slice Ao73 t235.length co73)).setCell ⟨gb234, 2, none⟩ (.slice Ao75 t238.length co75)).setCell ⟨gb234, 3, none⟩ (.slice none 0 0)) w.heap.size (fun k_ => some k_ ≠ (.slice Ao73 t235.length co73 : Value).ownBlock) (.slice Ao75 t238.length co75) t238) := ⟨by (with_reducible repeat (first | apply Kd.R_alloc | apply Kd.R_drewN | apply Kd.R_drew)); exact Kd.R_mono (Kd.R_far (p := ⟨gb234, 3, none⟩) (Kd.R_far (p := ⟨gb234, 2, none⟩) (Kd.R_far (p := ⟨gb234, 1, none⟩) (Kd.R_types HO240.1 BK234.1 (by decide)) (fun _ hk => hk.2) (.slice Ao73 t235.length co73)) (fun _ hk => hk.2) (.slice Ao75 t238.length co75)) (fun _ hk => hk.2) (.slice none 0 0)) (fun _ hk => hk.1.2)⟩
 have n4_ : Aside0 ((((w72.setCell ⟨gb234, 1, none⟩ (.slice Ao73 t235.length co73)).setCell ⟨gb234, 2, none⟩ (.slice Ao75 t238.length co75)).setCell ⟨gb234, 3, none⟩ (.slice none 0 0)).heap[gb216]? = some (.cells #[.string a0_0, .slice A0_1 l0_1.length c0_1, .slice (some ad233) l0_2.length c0_2] 25 (0, 0))) := ⟨by (with_reducible repeat (first | refine blk_drewN ?_ _ | refine blk_drew ?_ | refine blk_alloc ?_ _)); refine bf3 ?_ NB216_234.1; exact pbk BK216.1⟩
 have n5_ : Aside0 ((((w72.setCell ⟨gb234, 1, none⟩ (.slice Ao73 t235.length co73)).setCell ⟨gb234, 2, none⟩ (.slice Ao75 t238.length co75)).setCell ⟨gb234, 3, none⟩ (.slice none 0 0)).heap[gb217]? = some (.cells #[.string (⟨#[]⟩ : ByteArray), .slice none 0 0, .slice none 0 0] 25 (0, 0))) := ⟨by (with_reducible repeat (first | refine blk_drewN ?_ _ | refine blk_drew ?_ | refine blk_alloc ?_ _)); refine bf3 ?_ NB217_234.1; exact pbk BK217.1⟩
 have n6_ : Aside0 ((((w72.setCell ⟨gb234, 1, none⟩ (.slice Ao73 t235.length co73)).setCell ⟨gb234, 2, none⟩ (.slice Ao75 t238.length co75)).setCell ⟨gb234, 3, none⟩ (.slice none 0 0)).heap[gb224]? = some (.cells #[.string a0_0, u225001, u225002] 25 (0, 0))) := ⟨by (with_reducible repeat (first | refine blk_drewN ?_ _ | refine blk_drew ?_ | refine blk_alloc ?_ _)); refine bf3 ?_ NB224_234.1; exact pbk BK224.1⟩
 have n7_ : Aside0 ((((w72.setCell ⟨gb234, 1, none⟩ (.slice Ao73 t235.length co73)).setCell ⟨gb234, 2, none⟩ (.slice Ao75 t238.length co75)).setCell ⟨gb234, 3, none⟩ (.slice none 0 0)).heap[gb234]? = some (.cells #[.string ((rd_T48 l0_2 x57_2).f0), .slice Ao73 t235.length co73, .slice Ao75 t238.length co75, .slice none 0 0, .int .i64 ((rd_T48 l0_2 x57_2).f4)] 48 (0, 0))) := ⟨by (with_reducible repeat (first | refine blk_drewN ?_ _ | refine blk_drew ?_ | refine blk_alloc ?_ _)); refine blk_put (cs := #[.string ((rd_T48 l0_2 x57_2).f0), .slice Ao73 t235.length co73, .slice Ao75 t238.length co75, .slice A233_3 ((rd_T48 l0_2 x57_2).f3).length c233_3, .int .i64 ((rd_T48 l0_2 x57_2).f4)]) ?_ 3 _ rfl; (with_reducible repeat (first | refine blk_drewN ?_ _ | refine blk_drew ?_ | refine blk_alloc ?_ _)); refine blk_put (cs := #[.string ((rd_T48 l0_2 x57_2).f0), .slice Ao73 t235.length co73, .slice A233_2 ((rd_T48 l0_2 x57_2).f2).length c233_2, .slice A233_3 ((rd_T48 l0_2 x57_2).f3).length c233_3, .int .i64 ((rd_T48 l0_2 x57_2).f4)]) ?_ 2 _ rfl; (with_reducible repeat (first | refine blk_drewN ?_ _ | refine blk_drew ?_ | refine blk_alloc ?_ _)); refine blk_put (cs := #[.string ((rd_T48 l0_2 x57_2).f0), .slice A233_1 ((rd_T48 l0_2 x57_2).f1).length c233_1, .slice A233_2 ((rd_T48 l0_2 x57_2).f2).length c233_2, .slice A233_3 ((rd_T48 l0_2 x57_2).f3).length c233_3, .int .i64 ((rd_T48 l0_2 x57_2).f4)]) ?_ 1 _ rfl; exact pbk BK234.1⟩
 have n8_ : Aside0 (Below w.heap.size w (((w72.setCell ⟨gb234, 1, none⟩ (.slice Ao73 t235.length co73)).setCell ⟨gb234, 2, none⟩ (.slice Ao75 t238.length co75)).setCell ⟨gb234, 3, none⟩ (.slice none 0 0))) := ⟨pbg⟩
 (try clear HO_225001)
 (try clear HO_225002)
 (try clear HO237)
 (try clear HO240)
 (try clear BK216)
 (try clear BK217)
 (try clear BK224)
 (try clear BK234)
 (try clear HB)
 generalize (((w72.setCell ⟨gb234, 1, none⟩ (.slice Ao73 t235.length co73)).setCell ⟨gb234, 2, none⟩ (.slice Ao75 t238.length co75)).setCell ⟨gb234, 3, none⟩ (.slice none 0 0)) = w78 at n0_ n1_ n2_ n3_ n4_ n5_ n6_ n7_ n8_ ⊢
 have HO_225001 := n0_
 have HO_225002 := n1_
 have HO237 := n2_
 have HO240 := n3_
 have BK216 := n4_
 have BK217 := n5_
 have BK224 := n6_
 have BK234 := n7_
 have HB := n8_
 clear n0_ n1_ n2_ n3_ n4_ n5_ n6_ n7_ n8_
 have hnb79 := NB224_216.1
 have hnc79 := NB216_224.1
 have hnb80 := NB224_217.1
 have hnc80 := NB217_224.1
 obtain ⟨z81_0, z81_1, z81_2, y81_0, y81_1, y81_2⟩ := cf3 BK224.1
 obtain ⟨z82_0, z82_1, z82_2, z82_3, z82_4, y82_0, y82_1, y82_2, y82_3, y82_4⟩ := cf5 BK234.1
 try go_wp2_with (first | ((with_reducible refine gate_builtin (b := .append) (xs := #[.tmp 71, .tmp 73]) rfl ?_); at_builtin; refine Kd.S_append k48 (w0 := w) w.heap.size rfl (.tmp 71) (.tmp 73) 23 48 (.agg #[(.string ⟨#[]⟩), (.slice none 0 0), (.slice none 0 0), (.slice none 0 0), (.int .i64 0)]) 96 rfl Try.underlying23 info48 rfl (by decide) (by omega) u225002 x225002_2 (⟨(rd_T48 l0_2 x57_2).f0, t235, t238, ([] : List (S55)), (rd_T48 l0_2 x57_2).f4⟩ : S48) [.string ((rd_T48 l0_2 x57_2).f0), .slice Ao73 t235.length co73, .slice Ao75 t238.length co75, .slice none 0 0, .int .i64 ((rd_T48 l0_2 x57_2).f4)] (fun k_ => k_ ≠ gb234) (fun k_ => some k_ = (.slice Ao73 t235.length co73 : Value).ownBlock ∨ some k_ = (.slice Ao75 t238.length co75 : Value).ownBlock) rfl rfl ?aP (fun k_ hk_ => hk_.elim (fun h_ => ((Kd.R_mono (ok' := fun k_ => ((fun k_ => k_ ≠ gb234)) k_ ∧ some k_ ≠ (u225002 : Value).ownBlock) (Kd.R_types (Kd.R_apart' (HO237.1) (Kd.S_typed HO_225002.1) (by decide)) BK234.1 (by decide)) (fun k_ hk => ⟨hk.2, hk.1.2⟩))).1 k_ h_.symm) (fun h_ => ((Kd.R_mono (ok' := fun k_ => ((fun k_ => k_ ≠ gb234)) k_ ∧ some k_ ≠ (u225002 : Value).ownBlock) (Kd.R_types (Kd.R_apart' (HO240.1) (Kd.S_typed HO_225002.1) (by decide)) BK234.1 (by decide)) (fun k_ hk => ⟨hk.2, hk.1.2⟩))).1 k_ h_.symm)) ?aF ?aO ?aB ?aS ?aL ?_; (case aP => exact k48_mkM _ _ _ (⟨(rd_T48 l0_2 x57_2).f0, t235, t238, ([] : List (S55)), (rd_T48 l0_2 x57_2).f4⟩ : S48) (Kd.R_mono (Kd.R_tight rfl (Kd.R_mono (ok' := fun k_ => ((fun k_ => k_ ≠ gb234)) k_ ∧ some k_ ≠ (u225002 : Value).ownBlock) (Kd.R_types (Kd.R_apart' (HO237.1) (Kd.S_typed HO_225002.1) (by decide)) BK234.1 (by decide)) (fun k_ hk => ⟨hk.2, hk.1.2⟩))) (fun _ h_ => Or.inl h_)) (Kd.R_mono (Kd.R_tight rfl (Kd.R_mono (ok' := fun k_ => ((fun k_ => k_ ≠ gb234)) k_ ∧ some k_ ≠ (u225002 : Value).ownBlock) (Kd.R_types (Kd.R_apart' (HO240.1) (Kd.S_typed HO_225002.1) (by decide)) BK234.1 (by decide)) (fun k_ hk => ⟨hk.2, hk.1.2⟩))) (fun _ h_ => Or.inr (h_))) (Kd.R_nil _ _ _ _ _)); (case aB => exact pbg); (case aF => exact (fun k_ hk => Kd.freshB (g := gb234) (o := .cells #[.string ((rd_T48 l0_2 x57_2).f0), .slice Ao73 t235.length co73, .slice Ao75 t238.length co75, .slice none 0 0, .int .i64 ((rd_T48 l0_2 x57_2).f4)] 48 (0, 0)) (by exact pbk BK234.1) k_ hk)); (case aO => exact (by (with_reducible repeat (first | apply Kd.S_alloc | apply Kd.S_drewN | apply Kd.S_drew)); exact Kd.S_mono HO_225002.1 (fun k_ hk => ⟨hk.2.2, fun e_ => e_.elim (fun h_ => hk.1 h_) (fun h_ => hk.2.1 h_)⟩))); (case aS => exact (below_size pbg)); (case aL => have := LMc63.1; omega); intro v242 w83 ho hb hg hat; rw [← Ny241.1] at ho; have HO243 := am ho; replace HO_225001 := am (Kd.R_over' (pkr HO_225001.1) (Kd.S_typed (pks HO_225002.1)) (by decide) hg); replace BK216 := am (blk_grown (g := gb216) (o := .cells #[.string a0_0, .slice A0_1 l0_1.length c0_1, .slice (some ad233) l0_2.length c0_2] 25 (0, 0)) (by exact pbk BK216.1) hg (Kd.S_ne HO_225002.1 BK216.1 (by decide))); replace BK217 := am (blk_grown (g := gb217) (o := .cells #[.string (⟨#[]⟩ : ByteArray), .slice none 0 0, .slice none 0 0] 25 (0, 0)) (by exact pbk BK217.1) hg (Kd.S_ne HO_225002.1 BK217.1 (by decide))); replace BK224 := am (blk_grown (g := gb224) (o := .cells #[.string a0_0, u225001, u225002] 25 (0, 0)) (by exact pbk BK224.1) hg (Kd.S_ne HO_225002.1 BK224.1 (by decide))); replace BK234 := am (blk_grown (g := gb234) (o := .cells #[.string ((rd_T48 l0_2 x57_2).f0), .slice Ao73 t235.length co73, .slice Ao75 t238.length co75, .slice none 0 0, .int .i64 ((rd_T48 l0_2 x57_2).f4)] 48 (0, 0)) (by exact pbk BK234.1) hg (Kd.S_away HO_225002.1 (fun _ hk => hk.2.2))); replace HB := am hb; (try clear HO_225002 HO237 HO240); clear ho hb hg hat; obtain ⟨Ao84, co84, eo84⟩ := Kd.S_slice HO243.1; subst eo84; obtain ⟨z85_0, z85_1, z85_2, y85_0, y85_1, y85_2⟩ := cf3 BK224.1))
 go_roundg k2
 case measure => have := HK1.1; have := HK2.1; omega
 case rel => exact ⟨(wrap64 (x57_2 + 1)), (y241), (.slice Ao84 y241.length co84), prs, H', ⟨by have := HK1.1; have := HK2.1; omega⟩, ⟨by (with_reducible repeat (first | apply Kd.R_alloc | apply Kd.R_drewN | apply Kd.R_drew)); exact Kd.R_mono (Kd.R_far (p := ⟨gb224, 2, none⟩) (Kd.R_types HO_225001.1 BK224.1 (by decide)) (fun _ hk => hk.2) _) (fun _ hk => trivial)⟩, ⟨by (with_reducible repeat (first | apply Kd.S_alloc | apply Kd.S_drewN | apply Kd.S_drew)); exact Kd.S_mono (Kd.S_far (p := ⟨gb224, 2, none⟩) (Kd.S_types HO243.1 BK224.1 (by decide)) (fun _ hk => hk.2) _) (fun _ hk => trivial)⟩, ⟨by (with_reducible repeat (first | refine blk_drewN ?_ _ | refine blk_drew ?_ | refine blk_alloc ?_ _)); refine blk_far ?_ NB216_224.1 _; exact pbk BK216.1⟩, ⟨by (with_reducible repeat (first | refine blk_drewN ?_ _ | refine blk_drew ?_ | refine blk_alloc ?_ _)); refine blk_far ?_ NB217_224.1 _; exact pbk BK217.1⟩, ⟨by (with_reducible repeat (first | refine blk_drewN ?_ _ | refine blk_drew ?_ | refine blk_alloc ?_ _)); refine blk_put (cs := #[.string a0_0, u225001, u225002]) ?_ 2 _ rfl; exact pbk BK224.1⟩, ⟨pbg⟩⟩

/-! ### workflow_Final: function 23 -/
attribute [local go_sem high] eqA50
def workflow_Final.f (k : Nat) (a0_0 : ByteArray) (l0_1 : List (S52)) (l0_2 : List (S48)) : Option (List Int × Int) := (workflow_Prepare.f k a0_0 l0_1 l0_2).bind fun bt245 => (if bt245.2.2.2 = 0 then ((workflow_Sink.f k a0_0 l0_1 l0_2).bind fun bt254 => (if 0 ≤ (l0_1.length : Int) then (if ((l0_1.length : Int) : Int).toNat ≤ 35184372088832 then ((some (List.replicate ((l0_1.length : Int) : Int).toNat 0 : List Int)).bind fun y256 => (if 0 ≤ bt254.1 then (if bt254.1 < (y256.length : Int) then (some ((y256.set (bt254.1 : Int).toNat 1), 0)) else (none)) else (none))) else (none)) else (none))) else (some (([] : List Int), bt245.2.2.2)))
theorem workflow_Final.mono : ∀ a0 a1 a2 k, LeO (workflow_Final.f k a0 a1 a2) (workflow_Final.f (k + 1) a0 a1 a2) := by
 intro a0 a1 a2 k
 unfold workflow_Final.f
 repeat' first | (with_reducible first | apply workflow_Prepare.mono | apply workflow_Sink.mono | apply lr | apply ln | apply li | refine lb ?_ fun _ => ?_)
set_option maxHeartbeats 8000000 in
set_option maxRecDepth 100000 in
theorem workflow_Final.calls (k : Nat) (a0_0 : ByteArray) (A0_1 : Option Addr) (c0_1 : Nat) (l0_1 : List (S52)) (A0_2 : Option Addr) (c0_2 : Nat) (l0_2 : List (S48)) (r1 : List Int) (r2 : Int) (w : World) (hr0_1 : Kd.C k52 w A0_1 l0_1.length l0_1) (hc0_1 : l0_1.length ≤ c0_1) (hr0_2 : Kd.C k48 w A0_2 l0_2.length l0_2) (hc0_2 : l0_2.length ≤ c0_2) (h : workflow_Final.f k a0_0 l0_1 l0_2 = some (r1, r2)) :
  Calls Try.prog 23 #[.agg #[.string a0_0, .slice A0_1 l0_1.length c0_1, .slice A0_2 l0_2.length c0_2]] w fun e w' => ∃ v0_ : Value, e = .returned (.tuple #[v0_, .int .i64 r2]) ∧ Kd.R (Kd.int .i64) 3 w' w.heap.size (fun _ => True) v0_ r1 ∧ Below w.heap.size w w' := by
 have hu25 := Try.underlying25
 have HR0_1 := am hr0_1
 have HC0_1 := am hc0_1
 clear hr0_1 hc0_1
 have HR0_2 := am hr0_2
 have HC0_2 := am hc0_2
 clear hr0_2 hc0_2
 have HB := am (Below.refl w.heap.size w)
 have H : ((workflow_Prepare.f k a0_0 l0_1 l0_2).bind fun bt245 => (if bt245.2.2.2 = 0 then ((workflow_Sink.f k a0_0 l0_1 l0_2).bind fun bt254 => (if 0 ≤ (l0_1.length : Int) then (if ((l0_1.length : Int) : Int).toNat ≤ 35184372088832 then ((some (List.replicate ((l0_1.length : Int) : Int).toNat 0 : List Int)).bind fun y256 => (if 0 ≤ bt254.1 then (if bt254.1 < (y256.length : Int) then (some ((y256.set (bt254.1 : Int).toNat 1), 0)) else (none)) else (none))) else (none)) else (none))) else (some (([] : List Int), bt245.2.2.2)))) = some (r1, r2) := h
 clear h
 replace H := bnd H
 obtain ⟨⟨t245, t246, t249, t252⟩, A2, H⟩ := H
 (try dsimp only at H)
 by_cases c3 : t252 = 0
 rotate_left
 ·rw [if_neg c3] at H
  have c3b0 : (t252 == 0) = false := beq_eq_false_iff_ne.mpr c3
  have c3b1 : (t252 != 0) = true := bne_iff_ne.mpr c3
  simp only [Option.some.injEq, Prod.mk.injEq] at H
  obtain ⟨rfl, rfl⟩ := H
  go_enter Try.func23, Try.ntmps23
  go_wp2_with (first | ((with_reducible refine gate_dst (N := 1) rfl ?_); refine box_ev (N := 1) (cs := #[.string a0_0, .slice A0_1 l0_1.length c0_1, .slice A0_2 l0_2.length c0_2]) (t := 25) ?_; intro gb244 hg w25 hbox hb; have BK244 := am hbox; have GW244 := gwl hg; have GE244 := GW244; replace HB := bsl hb; clear hb hbox hg; obtain ⟨z26_0, z26_1, z26_2, y26_0, y26_1, y26_2⟩ := cf3 BK244.1) | ((with_reducible refine gate_callee (f := 21) rfl ?_); refine gC 11 Try.func21 _ (workflow_Prepare.calls k a0_0 _ _ l0_1 _ _ l0_2 t245 t246 t249 t252 _ (csb HR0_1 HB) HC0_1.1 (csb HR0_2 HB) HC0_2.1 A2.1) ?_; rintro e w27 ⟨v247, v250, rfl, ho0, ho1, hb⟩; refine ⟨_, rfl, ?_⟩; have HO248 := am (Kd.R_lower ho0 (below_size pbg)); have HO251 := am (Kd.S_lower ho1 (below_size pbg)); replace BK244 := bbh BK244 hb; replace HB := bst hb; (try clear hb); (try clear ho0); (try clear ho1)) | ((with_reducible refine gate_dst (N := 4) rfl ?_); refine box_ev (N := 4) (cs := #[.string (⟨#[]⟩ : ByteArray), .slice none 0 0, .slice none 0 0]) (t := 25) ?_; intro gb253 hg w28 hbox hb; have BK253 := am hbox; have GW253 := gwb hg; have GE253 := GW253; have NB244_253 := nlt hg BK244; have NB253_244 := ngt hg BK244; replace HO248 := rbw HO248 hb; replace HO251 := sbw HO251 hb; replace BK244 := bbh BK244 hb; replace HB := bst hb; clear hb hbox hg; have hnb29 := NB253_244.1; have hnc29 := NB244_253.1; obtain ⟨z30_0, z30_1, z30_2, y30_0, y30_1, y30_2⟩ := cf3 BK253.1; obtain ⟨Ao31, co31, eo31⟩ := Kd.R_slice HO248.1; subst eo31; obtain ⟨Ao32, co32, eo32⟩ := Kd.S_slice HO251.1; subst eo32))
  go_ret2
  exact ⟨_, per, knl, pbg⟩
 rw [if_pos c3] at H
 have c3b0 : (t252 == 0) = true := beq_iff_eq.mpr c3
 have c3b1 : (t252 != 0) = false := bne_eq_false_iff_eq.mpr c3
 clear c3
 replace H := bnd H
 obtain ⟨⟨t254, t255⟩, A4, H⟩ := H
 (try dsimp only at H)
 replace H := ifp H
 obtain ⟨c5, H⟩ := H
 have c5b0 := eq_true c5
 have c5b1 : decide (0 ≤ (l0_1.length : Int)) = true := decide_eq_true c5
 clear c5
 replace H := ifp H
 obtain ⟨c6, H⟩ := H
 have c6b0 := eq_true c6
 have c6b1 : decide (((l0_1.length : Int) : Int).toNat ≤ 35184372088832) = true := decide_eq_true c6
 clear c6
 obtain ⟨y256, hy256⟩ : ∃ y_ : List Int, y_ = (List.replicate ((l0_1.length : Int) : Int).toNat 0) := ⟨_, rfl⟩
 replace H : (if 0 ≤ t254 then (if t254 < (y256.length : Int) then (some ((y256.set (t254 : Int).toNat 1), 0)) else (none)) else (none)) = some (r1, r2) := hrp hy256 H
 have Ny256 := am hy256
 clear hy256
 replace H := ifp H
 obtain ⟨c7, H⟩ := H
 have c7b0 := decide_eq_true c7
 clear c7
 replace H := ifp H
 obtain ⟨c8, H⟩ := H
 have c8b0 := decide_eq_true c8
 clear c8
 obtain ⟨y259, hy259⟩ : ∃ y_ : List Int, y_ = (y256.set (t254 : Int).toNat 1) := ⟨_, rfl⟩
 replace H : (some (y259, 0)) = some (r1, r2) := hrp hy259 H
 have Ny259 := am hy259
 clear hy259
 simp only [Option.some.injEq, Prod.mk.injEq] at H
 obtain ⟨rfl, rfl⟩ := H
 go_enter Try.func23, Try.ntmps23
 go_wp2_with (first | ((with_reducible refine gate_dst (N := 1) rfl ?_); refine box_ev (N := 1) (cs := #[.string a0_0, .slice A0_1 l0_1.length c0_1, .slice A0_2 l0_2.length c0_2]) (t := 25) ?_; intro gb244 hg w10 hbox hb; have BK244 := am hbox; have GW244 := gwl hg; have GE244 := GW244; replace HB := bsl hb; clear hb hbox hg; obtain ⟨z11_0, z11_1, z11_2, y11_0, y11_1, y11_2⟩ := cf3 BK244.1) | ((with_reducible refine gate_callee (f := 21) rfl ?_); refine gC 11 Try.func21 _ (workflow_Prepare.calls k a0_0 _ _ l0_1 _ _ l0_2 t245 t246 t249 t252 _ (csb HR0_1 HB) HC0_1.1 (csb HR0_2 HB) HC0_2.1 A2.1) ?_; rintro e w12 ⟨v247, v250, rfl, ho0, ho1, hb⟩; refine ⟨_, rfl, ?_⟩; have HO248 := am (Kd.R_lower ho0 (below_size pbg)); have HO251 := am (Kd.S_lower ho1 (below_size pbg)); replace BK244 := bbh BK244 hb; replace HB := bst hb; (try clear hb); (try clear ho0); (try clear ho1)) | ((with_reducible refine gate_dst (N := 4) rfl ?_); refine box_ev (N := 4) (cs := #[.string (⟨#[]⟩ : ByteArray), .slice none 0 0, .slice none 0 0]) (t := 25) ?_; intro gb253 hg w13 hbox hb; have BK253 := am hbox; have GW253 := gwb hg; have GE253 := GW253; have NB244_253 := nlt hg BK244; have NB253_244 := ngt hg BK244; replace HO248 := rbw HO248 hb; replace HO251 := sbw HO251 hb; replace BK244 := bbh BK244 hb; replace HB := bst hb; clear hb hbox hg; have hnb14 := NB253_244.1; have hnc14 := NB244_253.1; obtain ⟨z15_0, z15_1, z15_2, y15_0, y15_1, y15_2⟩ := cf3 BK253.1; obtain ⟨Ao16, co16, eo16⟩ := Kd.R_slice HO248.1; subst eo16; obtain ⟨Ao17, co17, eo17⟩ := Kd.S_slice HO251.1; subst eo17; obtain ⟨z18_0, z18_1, z18_2, y18_0, y18_1, y18_2⟩ := cf3 BK244.1) | ((with_reducible refine gate_callee (f := 14) rfl ?_); refine gC 19 Try.func14 _ (workflow_Sink.calls k a0_0 _ _ l0_1 _ _ l0_2 t254 t255 _ (Kd.C_below HR0_1.1 pbg) HC0_1.1 (Kd.C_below HR0_2.1 pbg) HC0_2.1 A4.1) ?_; rintro e w19 ⟨rfl, hb⟩; refine ⟨_, rfl, ?_⟩; replace HO248 := am (Kd.R_below (by (with_reducible repeat (first | apply Kd.R_alloc | apply Kd.R_drewN | apply Kd.R_drew)); exact (Kd.R_mono (Kd.R_far (p := ⟨gb253, 2, none⟩) (Kd.R_far (p := ⟨gb253, 1, none⟩) (Kd.R_far (p := ⟨gb253, 0, none⟩) (Kd.R_types HO248.1 BK253.1 (by decide)) (fun _ hk => hk.2) (.string t245)) (fun _ hk => hk.2) (.slice Ao16 t246.length co16)) (fun _ hk => hk.2) (.slice Ao17 t249.length co17)) (fun _ h_ => h_.1))) hb); replace HO251 := am (Kd.S_below (by (with_reducible repeat (first | apply Kd.S_alloc | apply Kd.S_drewN | apply Kd.S_drew)); exact (Kd.S_mono (Kd.S_far (p := ⟨gb253, 2, none⟩) (Kd.S_far (p := ⟨gb253, 1, none⟩) (Kd.S_far (p := ⟨gb253, 0, none⟩) (Kd.S_types HO251.1 BK253.1 (by decide)) (fun _ hk => hk.2) (.string t245)) (fun _ hk => hk.2) (.slice Ao16 t246.length co16)) (fun _ hk => hk.2) (.slice Ao17 t249.length co17)) (fun _ h_ => h_.1))) hb); replace BK244 := am (blk_below (g := gb244) (o := .cells #[.string a0_0, .slice A0_1 l0_1.length c0_1, .slice A0_2 l0_2.length c0_2] 25 (0, 0)) (by (with_reducible repeat (first | refine blk_drewN ?_ _ | refine blk_drew ?_ | refine blk_alloc ?_ _)); refine bf3 ?_ NB244_253.1; exact pbk BK244.1) hb); replace BK253 := am (blk_below (g := gb253) (o := .cells #[.string t245, .slice Ao16 t246.length co16, .slice Ao17 t249.length co17] 25 (0, 0)) (by (with_reducible repeat (first | refine blk_drewN ?_ _ | refine blk_drew ?_ | refine blk_alloc ?_ _)); exact bp3 (pbk BK253.1)) hb); replace HB := bst hb; (try clear hb); (try clear hk); obtain ⟨z20_0, z20_1, z20_2, y20_0, y20_1, y20_2⟩ := cf3 BK244.1) | ((with_reducible refine gate_dst (N := 25) rfl ?_); refine Kd.R_make (Kd.int .i64) _ 3 rfl (N := 25) rfl 39 _ _ rfl (l0_1.length : Int) rfl rfl Try.underlying39 (.int .i64 0) 8 info3 rfl (by decide) (by omega) 0 (ok := fun _ => True) (okp := fun _ => True) rfl (fun _ hk => hk) trivial (dq) (Nat.le_trans (Nat.mul_le_mul_right _ (dq : (l0_1.length : Int).toNat ≤ 35184372088832)) (by omega)) (Below.refl _ _) (Nat.le_refl _) ?_; intro v257 w21 ho22 hb hg_ hnew_; clear hg_ hnew_; (first | rw [← Ny256.1] at ho22 | (simp only [Int.reduceToNat] at ho22; rw [← Ny256.1] at ho22)); have HO258 := am (Kd.R_lower ho22 (below_size pbg)); replace HO248 := rbw HO248 hb; replace HO251 := sbw HO251 hb; replace BK244 := bbh BK244 hb; replace BK253 := bbh BK253 hb; replace HB := bst hb; clear hb ho22; have p9 : 0 ≤ (t254 : Int) := dq; have q9 : (t254 : Int) < ((y256.length : Int) : Int) := dq; obtain ⟨go9, co9, eo9, gb9, gl9, cl9, HG9⟩ := Kd.R_form HO258.1 (by omega); (first | cases eo9 | (injection eo9 with ea_ en_ ec_; (first | subst ea_ | (injection ea_ with ea_; subst ea_)); subst ec_; clear en_)); have GB9 := am gb9; have GG9 := am HG9; clear gb9 gl9 HG9; obtain ⟨hx9_0, hf9_0⟩ := Kd.R_celln 0 HO258.1 (t254 : Int) p9 q9; replace p9 := eq_true p9; replace q9 := eq_true q9; obtain ⟨hy23_, hz23_⟩ := Kd.R_celln 0 HO258.1 (t254 : Int) (dq) (dq); have HP23 := Kd.R_putg HO258.1 (t254 : Int) 1) | ((with_reducible refine gate_store (t := 3) (p := 28) rfl ?_); refine store_event (t := 3) (p := 28) (v := ?vo_w24) (w1 := (w21.setCell ⟨go9, (t254 : Int).toNat, none⟩ (.int .i64 1))) ?hg ?ho ?hn ?hr ?_; (case ho => rfl); (case hg => rfl); (case hn => rfl); (case hr => first | (go_simp; done) | (go_simp; rfl)); intro w24 hw; have hg : w21.grownBy w24 (some go9) := (by rw [hw]; exact HP23.2); have hp_ : Kd.R (Kd.int .i64) 3 w24 w.heap.size (fun _ => True) (.slice (some ⟨go9, 0, none⟩) y256.length co9) y259 := (by rw [hw, Ny259.1]; exact HP23.1); clear HP23; replace BK244 := am (blk_grown (g := gb244) (o := .cells #[.string a0_0, .slice A0_1 l0_1.length c0_1, .slice A0_2 l0_2.length c0_2] 25 (0, 0)) (by exact pbk BK244.1) hg (Kd.R_ne HO258.1 BK244.1 (by decide))); replace HO248 := am (Kd.R_over' (v := (.slice (some ⟨go9, 0, none⟩) y256.length co9)) (pkr HO248.1) (Kd.R_typed HO258.1) (by decide) hg); replace HO251 := am (Kd.S_over' (v := (.slice (some ⟨go9, 0, none⟩) y256.length co9)) (pks HO251.1) (Kd.R_typed HO258.1) (by decide) hg); replace BK253 := am (blk_grown (g := gb253) (o := .cells #[.string t245, .slice Ao16 t246.length co16, .slice Ao17 t249.length co17] 25 (0, 0)) (by exact pbk BK253.1) hg (Kd.R_ne HO258.1 BK253.1 (by decide))); replace HO258 := am hp_; replace HB := am ((by rw [hw]; exact below_set (HB.1) GB9.1 : Below w.heap.size w w24)); clear hg hw hp_))
 go_ret2
 exact ⟨_, per, by (with_reducible repeat (first | apply Kd.R_alloc | apply Kd.R_drewN | apply Kd.R_drew)); exact HO258.1, pbg⟩

/-! ### workflow_Close: function 25 -/
attribute [local go_sem high] eqA50
def workflow_Close.j0 : Nat → Bool → ByteArray → List (S52) → List (S48) → ByteArray → List (S52) → List (S48) → Option (ByteArray × (List (S52)) × (List (S48)) × Int)
 | 0, _, _, _, _, _, _, _ => none
 | k + 1, x31, x269000, x269001, x269002, x279000, x279001, x279002 => if x31 = true then (some ((⟨#[]⟩ : ByteArray), ([] : List (S52)), ([] : List (S48)), 6)) else ((workflow_Source.f k x269000 x269001 x269002).bind fun bt281 => ((workflow_Sink.f k x269000 x269001 x269002).bind fun bt283 => (if x279002.length < 1466015503701 then (some (x279000, x279001, (x279002 ++ [(⟨(⟨#[95, 99, 108, 111, 115, 101]⟩ : ByteArray), (([(⟨bt283.1, 1⟩ : S55)] : List (S55))), (([(⟨bt281.1, 1⟩ : S55)] : List (S55))), ([] : List (S55)), 0⟩ : S48)]), 0)) else (none))))
def workflow_Close.f (k : Nat) (a0_0 : ByteArray) (l0_1 : List (S52)) (l0_2 : List (S48)) : Option (ByteArray × (List (S52)) × (List (S48)) × Int) := (workflow_Prepare.f k a0_0 l0_1 l0_2).bind fun bt270 => (if bt270.2.2.2 = 0 then (if (bt270.2.2.1.length : Int) ≥ 24 then (some ((⟨#[]⟩ : ByteArray), ([] : List (S52)), ([] : List (S48)), 2)) else ((net_Trans.f k bt270.1 bt270.2.1 bt270.2.2.1 (⟨#[95, 99, 108, 111, 115, 101]⟩ : ByteArray)).bind fun t279 => (if t279 ≥ 0 then (workflow_Close.j0 k true a0_0 l0_1 l0_2 bt270.1 bt270.2.1 bt270.2.2.1) else ((net_Place.f k bt270.1 bt270.2.1 bt270.2.2.1 (⟨#[95, 99, 108, 111, 115, 101]⟩ : ByteArray)).bind fun t280 => (workflow_Close.j0 k (decide (t280 ≥ 0)) a0_0 l0_1 l0_2 bt270.1 bt270.2.1 bt270.2.2.1))))) else (some ((⟨#[]⟩ : ByteArray), ([] : List (S52)), ([] : List (S48)), bt270.2.2.2)))
theorem workflow_Close.mono_l : ∀ k, M7 workflow_Close.j0 k
 | 0 => fun _ _ _ _ _ _ _ r h => by simp [workflow_Close.j0] at h
 | k + 1 => by
  have ih0 := workflow_Close.mono_l k
  ·intro y0 y1 y2 y3 y4 y5 y6
   unfold workflow_Close.j0
   repeat' first | (with_reducible first | apply ih0 | apply net_Place.mono | apply net_Trans.mono | apply workflow_Prepare.mono | apply workflow_Sink.mono | apply workflow_Source.mono | apply lr | apply ln | apply li | refine lb ?_ fun _ => ?_)
theorem workflow_Close.mono : ∀ a0 a1 a2 k, LeO (workflow_Close.f k a0 a1 a2) (workflow_Close.f (k + 1) a0 a1 a2) := by
 intro a0 a1 a2 k
 have ih0 := workflow_Close.mono_l k
 unfold workflow_Close.f
 repeat' first | (with_reducible first | apply ih0 | apply net_Place.mono | apply net_Trans.mono | apply workflow_Prepare.mono | apply workflow_Sink.mono | apply workflow_Source.mono | apply lr | apply ln | apply li | refine lb ?_ fun _ => ?_)
set_option maxHeartbeats 8000000 in
set_option maxRecDepth 100000 in
theorem workflow_Close.calls (k : Nat) (a0_0 : ByteArray) (A0_1 : Option Addr) (c0_1 : Nat) (l0_1 : List (S52)) (A0_2 : Option Addr) (c0_2 : Nat) (l0_2 : List (S48)) (r1 : ByteArray) (r2 : List (S52)) (r3 : List (S48)) (r4 : Int) (w : World) (hr0_1 : Kd.C k52 w A0_1 l0_1.length l0_1) (hc0_1 : l0_1.length ≤ c0_1) (hr0_2 : Kd.C k48 w A0_2 l0_2.length l0_2) (hc0_2 : l0_2.length ≤ c0_2) (h : workflow_Close.f k a0_0 l0_1 l0_2 = some (r1, r2, r3, r4)) :
  Calls Try.prog 25 #[.agg #[.string a0_0, .slice A0_1 l0_1.length c0_1, .slice A0_2 l0_2.length c0_2]] w fun e w' => ∃ v1_ v2_ : Value, e = .returned (.tuple #[.agg #[.string r1, v1_, v2_], .int .i64 r4]) ∧ Kd.R k52 52 w' w.heap.size (fun _ => True) v1_ r2 ∧ Kd.S k48 48 w' w.heap.size (fun _ => True) v2_ r3 ∧ Below w.heap.size w w' := by
 have hu25 := Try.underlying25
 have hu55 := Try.underlying55
 have hu48 := Try.underlying48
 have HR0_1 := am hr0_1
 have HC0_1 := am hc0_1
 clear hr0_1 hc0_1
 have HR0_2 := am hr0_2
 have HC0_2 := am hc0_2
 clear hr0_2 hc0_2
 have HB := am (Below.refl w.heap.size w)
 have H : ((workflow_Prepare.f k a0_0 l0_1 l0_2).bind fun bt270 => (if bt270.2.2.2 = 0 then (if (bt270.2.2.1.length : Int) ≥ 24 then (some ((⟨#[]⟩ : ByteArray), ([] : List (S52)), ([] : List (S48)), 2)) else ((net_Trans.f k bt270.1 bt270.2.1 bt270.2.2.1 (⟨#[95, 99, 108, 111, 115, 101]⟩ : ByteArray)).bind fun t279 => (if t279 ≥ 0 then (workflow_Close.j0 k true a0_0 l0_1 l0_2 bt270.1 bt270.2.1 bt270.2.2.1) else ((net_Place.f k bt270.1 bt270.2.1 bt270.2.2.1 (⟨#[95, 99, 108, 111, 115, 101]⟩ : ByteArray)).bind fun t280 => (workflow_Close.j0 k (decide (t280 ≥ 0)) a0_0 l0_1 l0_2 bt270.1 bt270.2.1 bt270.2.2.1))))) else (some ((⟨#[]⟩ : ByteArray), ([] : List (S52)), ([] : List (S48)), bt270.2.2.2)))) = some (r1, r2, r3, r4) := h
 clear h
 replace H := bnd H
 obtain ⟨⟨t270, t271, t274, t277⟩, A2, H⟩ := H
 (try dsimp only at H)
 by_cases c3 : t277 = 0
 rotate_left
 ·rw [if_neg c3] at H
  have c3b0 : (t277 == 0) = false := beq_eq_false_iff_ne.mpr c3
  have c3b1 : (t277 != 0) = true := bne_iff_ne.mpr c3
  simp only [Option.some.injEq, Prod.mk.injEq] at H
  obtain ⟨rfl, rfl, rfl, rfl⟩ := H
  go_enter Try.func25, Try.ntmps25
  go_wp2_with (first | ((with_reducible refine gate_dst (N := 1) rfl ?_); refine box_ev (N := 1) (cs := #[.string a0_0, .slice A0_1 l0_1.length c0_1, .slice A0_2 l0_2.length c0_2]) (t := 25) ?_; intro gb268 hg w67 hbox hb; have BK268 := am hbox; have GW268 := gwl hg; have GE268 := GW268; replace HB := bsl hb; clear hb hbox hg) | ((with_reducible refine gate_dst (N := 2) rfl ?_); refine box_ev (N := 2) (cs := #[.string (⟨#[]⟩ : ByteArray), .slice none 0 0, .slice none 0 0]) (t := 25) ?_; intro gb269 hg w68 hbox hb; have BK269 := am hbox; have GW269 := gwb hg; have GE269 := GW269; have NB268_269 := nlt hg BK268; have NB269_268 := ngt hg BK268; replace BK268 := bbh BK268 hb; replace HB := bst hb; clear hb hbox hg; have hnb69 := NB268_269.1; have hnc69 := NB269_268.1; obtain ⟨z70_0, z70_1, z70_2, y70_0, y70_1, y70_2⟩ := cf3 BK268.1) | ((with_reducible refine gate_callee (f := 21) rfl ?_); refine gC 12 Try.func21 _ (workflow_Prepare.calls k a0_0 _ _ l0_1 _ _ l0_2 t270 t271 t274 t277 _ (csb HR0_1 HB) HC0_1.1 (csb HR0_2 HB) HC0_2.1 A2.1) ?_; rintro e w71 ⟨v272, v275, rfl, ho0, ho1, hb⟩; refine ⟨_, rfl, ?_⟩; have HO273 := am (Kd.R_lower ho0 (below_size pbg)); have HO276 := am (Kd.S_lower ho1 (below_size pbg)); replace BK268 := bbh BK268 hb; replace BK269 := bbh BK269 hb; replace HB := bst hb; (try clear hb); (try clear ho0); (try clear ho1)) | ((with_reducible refine gate_dst (N := 4) rfl ?_); refine box_ev (N := 4) (cs := #[.string (⟨#[]⟩ : ByteArray), .slice none 0 0, .slice none 0 0]) (t := 25) ?_; intro gb278 hg w72 hbox hb; have BK278 := am hbox; have GW278 := gwb hg; have GE278 := GW278; have NB268_278 := nlt hg BK268; have NB278_268 := ngt hg BK268; have NB269_278 := nlt hg BK269; have NB278_269 := ngt hg BK269; replace HO273 := rbw HO273 hb; replace HO276 := sbw HO276 hb; replace BK268 := bbh BK268 hb; replace BK269 := bbh BK269 hb; replace HB := bst hb; clear hb hbox hg; have hnb73 := NB278_268.1; have hnc73 := NB268_278.1; have hnb74 := NB278_269.1; have hnc74 := NB269_278.1; obtain ⟨z75_0, z75_1, z75_2, y75_0, y75_1, y75_2⟩ := cf3 BK278.1; obtain ⟨Ao76, co76, eo76⟩ := Kd.R_slice HO273.1; subst eo76; obtain ⟨Ao77, co77, eo77⟩ := Kd.S_slice HO276.1; subst eo77; obtain ⟨z78_0, z78_1, z78_2, y78_0, y78_1, y78_2⟩ := cf3 BK269.1))
  refine bodyPost_ret (results_ct rfl _ _ gb269 25 #[.string (⟨#[]⟩ : ByteArray), .slice none 0 0, .slice none 0 0] (0, 0) _ rfl (by (with_reducible repeat (first | refine blk_drewN ?_ _ | refine blk_drew ?_ | refine blk_alloc ?_ _)); refine blk_put (cs := #[.string (⟨#[]⟩ : ByteArray), .slice none 0 0, .slice none 0 0]) ?_ 2 _ rfl; (with_reducible repeat (first | refine blk_drewN ?_ _ | refine blk_drew ?_ | refine blk_alloc ?_ _)); refine blk_put (cs := #[.string (⟨#[]⟩ : ByteArray), .slice none 0 0, .slice none 0 0]) ?_ 1 _ rfl; (with_reducible repeat (first | refine blk_drewN ?_ _ | refine blk_drew ?_ | refine blk_alloc ?_ _)); refine blk_put (cs := #[.string (⟨#[]⟩ : ByteArray), .slice none 0 0, .slice none 0 0]) ?_ 0 _ rfl; (with_reducible repeat (first | refine blk_drewN ?_ _ | refine blk_drew ?_ | refine blk_alloc ?_ _)); refine bf3 ?_ NB269_278.1; exact pbk BK269.1) Try.underlying25 rfl (by kernel_rfl)) rfl ?_
  exact ⟨_, _, per, knl, knl, pbg⟩
 rw [if_pos c3] at H
 have c3b0 : (t277 == 0) = true := beq_iff_eq.mpr c3
 have c3b1 : (t277 != 0) = false := bne_eq_false_iff_eq.mpr c3
 clear c3
 by_cases c4 : (t274.length : Int) ≥ 24
 ·rw [if_pos c4] at H
  have c4b0 : decide (24 ≤ (t274.length : Int)) = true := decide_eq_true c4
  have c4b1 : decide (24 ≤ t274.length) = true := decide_eq_true (by omega)
  clear c4
  simp only [Option.some.injEq, Prod.mk.injEq] at H
  obtain ⟨rfl, rfl, rfl, rfl⟩ := H
  go_enter Try.func25, Try.ntmps25
  go_wp2_with (first | ((with_reducible refine gate_dst (N := 1) rfl ?_); refine box_ev (N := 1) (cs := #[.string a0_0, .slice A0_1 l0_1.length c0_1, .slice A0_2 l0_2.length c0_2]) (t := 25) ?_; intro gb268 hg w5 hbox hb; have BK268 := am hbox; have GW268 := gwl hg; have GE268 := GW268; replace HB := bsl hb; clear hb hbox hg) | ((with_reducible refine gate_dst (N := 2) rfl ?_); refine box_ev (N := 2) (cs := #[.string (⟨#[]⟩ : ByteArray), .slice none 0 0, .slice none 0 0]) (t := 25) ?_; intro gb269 hg w6 hbox hb; have BK269 := am hbox; have GW269 := gwb hg; have GE269 := GW269; have NB268_269 := nlt hg BK268; have NB269_268 := ngt hg BK268; replace BK268 := bbh BK268 hb; replace HB := bst hb; clear hb hbox hg; have hnb7 := NB268_269.1; have hnc7 := NB269_268.1; obtain ⟨z8_0, z8_1, z8_2, y8_0, y8_1, y8_2⟩ := cf3 BK268.1) | ((with_reducible refine gate_callee (f := 21) rfl ?_); refine gC 12 Try.func21 _ (workflow_Prepare.calls k a0_0 _ _ l0_1 _ _ l0_2 t270 t271 t274 t277 _ (csb HR0_1 HB) HC0_1.1 (csb HR0_2 HB) HC0_2.1 A2.1) ?_; rintro e w9 ⟨v272, v275, rfl, ho0, ho1, hb⟩; refine ⟨_, rfl, ?_⟩; have HO273 := am (Kd.R_lower ho0 (below_size pbg)); have HO276 := am (Kd.S_lower ho1 (below_size pbg)); replace BK268 := bbh BK268 hb; replace BK269 := bbh BK269 hb; replace HB := bst hb; (try clear hb); (try clear ho0); (try clear ho1)) | ((with_reducible refine gate_dst (N := 4) rfl ?_); refine box_ev (N := 4) (cs := #[.string (⟨#[]⟩ : ByteArray), .slice none 0 0, .slice none 0 0]) (t := 25) ?_; intro gb278 hg w10 hbox hb; have BK278 := am hbox; have GW278 := gwb hg; have GE278 := GW278; have NB268_278 := nlt hg BK268; have NB278_268 := ngt hg BK268; have NB269_278 := nlt hg BK269; have NB278_269 := ngt hg BK269; replace HO273 := rbw HO273 hb; replace HO276 := sbw HO276 hb; replace BK268 := bbh BK268 hb; replace BK269 := bbh BK269 hb; replace HB := bst hb; clear hb hbox hg; have hnb11 := NB278_268.1; have hnc11 := NB268_278.1; have hnb12 := NB278_269.1; have hnc12 := NB269_278.1; obtain ⟨z13_0, z13_1, z13_2, y13_0, y13_1, y13_2⟩ := cf3 BK278.1; obtain ⟨Ao14, co14, eo14⟩ := Kd.R_slice HO273.1; subst eo14; obtain ⟨Ao15, co15, eo15⟩ := Kd.S_slice HO276.1; subst eo15; obtain ⟨z16_0, z16_1, z16_2, y16_0, y16_1, y16_2⟩ := cf3 BK269.1))
  refine bodyPost_ret (results_ct rfl _ _ gb269 25 #[.string (⟨#[]⟩ : ByteArray), .slice none 0 0, .slice none 0 0] (0, 0) _ rfl (by (with_reducible repeat (first | refine blk_drewN ?_ _ | refine blk_drew ?_ | refine blk_alloc ?_ _)); refine blk_put (cs := #[.string (⟨#[]⟩ : ByteArray), .slice none 0 0, .slice none 0 0]) ?_ 2 _ rfl; (with_reducible repeat (first | refine blk_drewN ?_ _ | refine blk_drew ?_ | refine blk_alloc ?_ _)); refine blk_put (cs := #[.string (⟨#[]⟩ : ByteArray), .slice none 0 0, .slice none 0 0]) ?_ 1 _ rfl; (with_reducible repeat (first | refine blk_drewN ?_ _ | refine blk_drew ?_ | refine blk_alloc ?_ _)); refine blk_put (cs := #[.string (⟨#[]⟩ : ByteArray), .slice none 0 0, .slice none 0 0]) ?_ 0 _ rfl; (with_reducible repeat (first | refine blk_drewN ?_ _ | refine blk_drew ?_ | refine blk_alloc ?_ _)); refine bf3 ?_ NB269_278.1; exact pbk BK269.1) Try.underlying25 rfl (by kernel_rfl)) rfl ?_
  exact ⟨_, _, per, knl, knl, pbg⟩
 rw [if_neg c4] at H
 have c4b0 : decide (24 ≤ (t274.length : Int)) = false := decide_eq_false c4
 have c4b1 : decide (24 ≤ t274.length) = false := decide_eq_false (by omega)
 clear c4
 have HC17 := am H
 clear H
 go_enter Try.func25, Try.ntmps25
 go_upto_region 6 with (first | ((with_reducible refine gate_dst (N := 1) rfl ?_); refine box_ev (N := 1) (cs := #[.string a0_0, .slice A0_1 l0_1.length c0_1, .slice A0_2 l0_2.length c0_2]) (t := 25) ?_; intro gb268 hg w18 hbox hb; have BK268 := am hbox; have GW268 := gwl hg; have GE268 := GW268; replace HB := bsl hb; clear hb hbox hg) | ((with_reducible refine gate_dst (N := 2) rfl ?_); refine box_ev (N := 2) (cs := #[.string (⟨#[]⟩ : ByteArray), .slice none 0 0, .slice none 0 0]) (t := 25) ?_; intro gb269 hg w19 hbox hb; have BK269 := am hbox; have GW269 := gwb hg; have GE269 := GW269; have NB268_269 := nlt hg BK268; have NB269_268 := ngt hg BK268; replace BK268 := bbh BK268 hb; replace HB := bst hb; clear hb hbox hg; have hnb20 := NB268_269.1; have hnc20 := NB269_268.1; obtain ⟨z21_0, z21_1, z21_2, y21_0, y21_1, y21_2⟩ := cf3 BK268.1) | ((with_reducible refine gate_callee (f := 21) rfl ?_); refine gC 12 Try.func21 _ (workflow_Prepare.calls k a0_0 _ _ l0_1 _ _ l0_2 t270 t271 t274 t277 _ (csb HR0_1 HB) HC0_1.1 (csb HR0_2 HB) HC0_2.1 A2.1) ?_; rintro e w22 ⟨v272, v275, rfl, ho0, ho1, hb⟩; refine ⟨_, rfl, ?_⟩; have HO273 := am (Kd.R_lower ho0 (below_size pbg)); have HO276 := am (Kd.S_lower ho1 (below_size pbg)); replace BK268 := bbh BK268 hb; replace BK269 := bbh BK269 hb; replace HB := bst hb; (try clear hb); (try clear ho0); (try clear ho1)) | ((with_reducible refine gate_dst (N := 4) rfl ?_); refine box_ev (N := 4) (cs := #[.string (⟨#[]⟩ : ByteArray), .slice none 0 0, .slice none 0 0]) (t := 25) ?_; intro gb278 hg w23 hbox hb; have BK278 := am hbox; have GW278 := gwb hg; have GE278 := GW278; have NB268_278 := nlt hg BK268; have NB278_268 := ngt hg BK268; have NB269_278 := nlt hg BK269; have NB278_269 := ngt hg BK269; replace HO273 := rbw HO273 hb; replace HO276 := sbw HO276 hb; replace BK268 := bbh BK268 hb; replace BK269 := bbh BK269 hb; replace HB := bst hb; clear hb hbox hg; have hnb24 := NB278_268.1; have hnc24 := NB268_278.1; have hnb25 := NB278_269.1; have hnc25 := NB269_278.1; obtain ⟨z26_0, z26_1, z26_2, y26_0, y26_1, y26_2⟩ := cf3 BK278.1; obtain ⟨Ao27, co27, eo27⟩ := Kd.R_slice HO273.1; subst eo27; obtain ⟨Ao28, co28, eo28⟩ := Kd.S_slice HO276.1; subst eo28))
 (try simp only [Act.put, List.setIfInBounds_toArray, List.set_cons_zero, List.set_cons_succ])
 go_cut [31] (fun v31 wc => ∃ (kq : Nat) (x31_16 : Bool), v31 = .bool x31_16 ∧ Aside0 (workflow_Close.j0 kq x31_16 a0_0 l0_1 l0_2 t270 t271 t274 = some (r1, r2, r3, r4)) ∧ Aside0 (kq ≤ k) ∧ Aside0 (Kd.R k52 52 wc w.heap.size (fun _ => True) (.slice Ao27 t271.length co27) t271) ∧ Aside0 (Kd.S k48 48 wc w.heap.size (fun _ => True) (.slice Ao28 t274.length co28) t274) ∧ Aside0 (wc.heap[gb268]? = some (.cells #[.string a0_0, (.slice A0_1 l0_1.length c0_1), (.slice A0_2 l0_2.length c0_2)] 25 (0, 0))) ∧ Aside0 (wc.heap[gb269]? = some (.cells #[.string (⟨#[]⟩ : ByteArray), (.slice none 0 0), (.slice none 0 0)] 25 (0, 0))) ∧ Aside0 (wc.heap[gb278]? = some (.cells #[.string t270, (.slice Ao27 t271.length co27), (.slice Ao28 t274.length co28)] 25 (0, 0))) ∧ Aside0 (Below w.heap.size w wc))
 case first =>
  have H := HC17.1
  clear HC17
  replace H := bnd H
  obtain ⟨t279, A29, H⟩ := H
  (try dsimp only at H)
  by_cases c30 : t279 ≥ 0
  ·rw [if_pos c30] at H
   have c30b0 : decide (0 ≤ t279) = true := decide_eq_true c30
   clear c30
   (first | rw [c30b0] | (simp only [i64_w, i32_w]; rw [c30b0]) | skip)
   have H' := am H
   clear H
   have hnb31 := NB278_268.1
   have hnc31 := NB268_278.1
   have hnb32 := NB278_269.1
   have hnc32 := NB269_278.1
   obtain ⟨z33_0, z33_1, z33_2, y33_0, y33_1, y33_2⟩ := cf3 BK278.1
   go_wp2_with (first | ((with_reducible refine gate_callee (f := 32) rfl ?_); refine gC 25 Try.func32 _ (net_Trans.calls k t270 _ _ t271 _ _ t274 (⟨#[95, 99, 108, 111, 115, 101]⟩ : ByteArray) t279 _ ?side1 ?side2 ?side3 ?side4 A29.1) ?_; (case side1 => refine (Kd.R_reads' (e := 52) (base := w.heap.size) (ok := fun k_ => True) (n := t271.length) (c := co27) ?_).2.2; exact (by (with_reducible repeat (first | apply Kd.R_alloc | apply Kd.R_drewN | apply Kd.R_drew)); exact (Kd.R_mono (Kd.R_far (p := ⟨gb278, 2, none⟩) (Kd.R_far (p := ⟨gb278, 1, none⟩) (Kd.R_far (p := ⟨gb278, 0, none⟩) (Kd.R_types HO273.1 BK278.1 (by decide)) (fun _ hk => hk.2) (.string t270)) (fun _ hk => hk.2) (.slice Ao27 t271.length co27)) (fun _ hk => hk.2) (.slice Ao28 t274.length co28)) (fun _ h_ => h_.1)))); (case side2 => exact (Kd.R_reads' HO273.1).2.1); (case side3 => refine (Kd.S_reads' (e := 48) (base := w.heap.size) (ok := fun k_ => True) (n := t274.length) (c := co28) ?_).2.2; exact (by (with_reducible repeat (first | apply Kd.S_alloc | apply Kd.S_drewN | apply Kd.S_drew)); exact (Kd.S_mono (Kd.S_far (p := ⟨gb278, 2, none⟩) (Kd.S_far (p := ⟨gb278, 1, none⟩) (Kd.S_far (p := ⟨gb278, 0, none⟩) (Kd.S_types HO276.1 BK278.1 (by decide)) (fun _ hk => hk.2) (.string t270)) (fun _ hk => hk.2) (.slice Ao27 t271.length co27)) (fun _ hk => hk.2) (.slice Ao28 t274.length co28)) (fun _ h_ => h_.1)))); (case side4 => exact (Kd.S_reads' HO276.1).2.1); rintro e w34 ⟨rfl, hb⟩; refine ⟨_, rfl, ?_⟩; replace HO273 := am (Kd.R_below (by (with_reducible repeat (first | apply Kd.R_alloc | apply Kd.R_drewN | apply Kd.R_drew)); exact (Kd.R_mono (Kd.R_far (p := ⟨gb278, 2, none⟩) (Kd.R_far (p := ⟨gb278, 1, none⟩) (Kd.R_far (p := ⟨gb278, 0, none⟩) (Kd.R_types HO273.1 BK278.1 (by decide)) (fun _ hk => hk.2) (.string t270)) (fun _ hk => hk.2) (.slice Ao27 t271.length co27)) (fun _ hk => hk.2) (.slice Ao28 t274.length co28)) (fun _ h_ => h_.1))) hb); replace HO276 := am (Kd.S_below (by (with_reducible repeat (first | apply Kd.S_alloc | apply Kd.S_drewN | apply Kd.S_drew)); exact (Kd.S_mono (Kd.S_far (p := ⟨gb278, 2, none⟩) (Kd.S_far (p := ⟨gb278, 1, none⟩) (Kd.S_far (p := ⟨gb278, 0, none⟩) (Kd.S_types HO276.1 BK278.1 (by decide)) (fun _ hk => hk.2) (.string t270)) (fun _ hk => hk.2) (.slice Ao27 t271.length co27)) (fun _ hk => hk.2) (.slice Ao28 t274.length co28)) (fun _ h_ => h_.1))) hb); replace BK268 := am (blk_below (g := gb268) (o := .cells #[.string a0_0, .slice A0_1 l0_1.length c0_1, .slice A0_2 l0_2.length c0_2] 25 (0, 0)) (by (with_reducible repeat (first | refine blk_drewN ?_ _ | refine blk_drew ?_ | refine blk_alloc ?_ _)); refine bf3 ?_ NB268_278.1; exact pbk BK268.1) hb); replace BK269 := am (blk_below (g := gb269) (o := .cells #[.string (⟨#[]⟩ : ByteArray), .slice none 0 0, .slice none 0 0] 25 (0, 0)) (by (with_reducible repeat (first | refine blk_drewN ?_ _ | refine blk_drew ?_ | refine blk_alloc ?_ _)); refine bf3 ?_ NB269_278.1; exact pbk BK269.1) hb); replace BK278 := am (blk_below (g := gb278) (o := .cells #[.string t270, .slice Ao27 t271.length co27, .slice Ao28 t274.length co28] 25 (0, 0)) (by (with_reducible repeat (first | refine blk_drewN ?_ _ | refine blk_drew ?_ | refine blk_alloc ?_ _)); exact bp3 (pbk BK278.1)) hb); replace HB := bst hb; (try clear hb); (try clear hk)))
   go_meet
   case rel => exact ⟨_, (true), prs, H', ⟨by first | omega | exact Nat.le_refl _⟩, ⟨pkr HO273.1⟩, ⟨pks HO276.1⟩, ⟨pbk BK268.1⟩, ⟨pbk BK269.1⟩, ⟨pbk BK278.1⟩, ⟨pbg⟩⟩
  rw [if_neg c30] at H
  have c30b0 : decide (0 ≤ t279) = false := decide_eq_false c30
  clear c30
  (first | rw [c30b0] | (simp only [i64_w, i32_w]; rw [c30b0]) | skip)
  replace H := bnd H
  obtain ⟨t280, A35, H⟩ := H
  (try dsimp only at H)
  have H' := am H
  clear H
  have hnb36 := NB278_268.1
  have hnc36 := NB268_278.1
  have hnb37 := NB278_269.1
  have hnc37 := NB269_278.1
  obtain ⟨z38_0, z38_1, z38_2, y38_0, y38_1, y38_2⟩ := cf3 BK278.1
  go_wp2_with (first | ((with_reducible refine gate_callee (f := 32) rfl ?_); refine gC 25 Try.func32 _ (net_Trans.calls k t270 _ _ t271 _ _ t274 (⟨#[95, 99, 108, 111, 115, 101]⟩ : ByteArray) t279 _ ?side1 ?side2 ?side3 ?side4 A29.1) ?_; (case side1 => refine (Kd.R_reads' (e := 52) (base := w.heap.size) (ok := fun k_ => True) (n := t271.length) (c := co27) ?_).2.2; exact (by (with_reducible repeat (first | apply Kd.R_alloc | apply Kd.R_drewN | apply Kd.R_drew)); exact (Kd.R_mono (Kd.R_far (p := ⟨gb278, 2, none⟩) (Kd.R_far (p := ⟨gb278, 1, none⟩) (Kd.R_far (p := ⟨gb278, 0, none⟩) (Kd.R_types HO273.1 BK278.1 (by decide)) (fun _ hk => hk.2) (.string t270)) (fun _ hk => hk.2) (.slice Ao27 t271.length co27)) (fun _ hk => hk.2) (.slice Ao28 t274.length co28)) (fun _ h_ => h_.1)))); (case side2 => exact (Kd.R_reads' HO273.1).2.1); (case side3 => refine (Kd.S_reads' (e := 48) (base := w.heap.size) (ok := fun k_ => True) (n := t274.length) (c := co28) ?_).2.2; exact (by (with_reducible repeat (first | apply Kd.S_alloc | apply Kd.S_drewN | apply Kd.S_drew)); exact (Kd.S_mono (Kd.S_far (p := ⟨gb278, 2, none⟩) (Kd.S_far (p := ⟨gb278, 1, none⟩) (Kd.S_far (p := ⟨gb278, 0, none⟩) (Kd.S_types HO276.1 BK278.1 (by decide)) (fun _ hk => hk.2) (.string t270)) (fun _ hk => hk.2) (.slice Ao27 t271.length co27)) (fun _ hk => hk.2) (.slice Ao28 t274.length co28)) (fun _ h_ => h_.1)))); (case side4 => exact (Kd.S_reads' HO276.1).2.1); rintro e w39 ⟨rfl, hb⟩; refine ⟨_, rfl, ?_⟩; replace HO273 := am (Kd.R_below (by (with_reducible repeat (first | apply Kd.R_alloc | apply Kd.R_drewN | apply Kd.R_drew)); exact (Kd.R_mono (Kd.R_far (p := ⟨gb278, 2, none⟩) (Kd.R_far (p := ⟨gb278, 1, none⟩) (Kd.R_far (p := ⟨gb278, 0, none⟩) (Kd.R_types HO273.1 BK278.1 (by decide)) (fun _ hk => hk.2) (.string t270)) (fun _ hk => hk.2) (.slice Ao27 t271.length co27)) (fun _ hk => hk.2) (.slice Ao28 t274.length co28)) (fun _ h_ => h_.1))) hb); replace HO276 := am (Kd.S_below (by (with_reducible repeat (first | apply Kd.S_alloc | apply Kd.S_drewN | apply Kd.S_drew)); exact (Kd.S_mono (Kd.S_far (p := ⟨gb278, 2, none⟩) (Kd.S_far (p := ⟨gb278, 1, none⟩) (Kd.S_far (p := ⟨gb278, 0, none⟩) (Kd.S_types HO276.1 BK278.1 (by decide)) (fun _ hk => hk.2) (.string t270)) (fun _ hk => hk.2) (.slice Ao27 t271.length co27)) (fun _ hk => hk.2) (.slice Ao28 t274.length co28)) (fun _ h_ => h_.1))) hb); replace BK268 := am (blk_below (g := gb268) (o := .cells #[.string a0_0, .slice A0_1 l0_1.length c0_1, .slice A0_2 l0_2.length c0_2] 25 (0, 0)) (by (with_reducible repeat (first | refine blk_drewN ?_ _ | refine blk_drew ?_ | refine blk_alloc ?_ _)); refine bf3 ?_ NB268_278.1; exact pbk BK268.1) hb); replace BK269 := am (blk_below (g := gb269) (o := .cells #[.string (⟨#[]⟩ : ByteArray), .slice none 0 0, .slice none 0 0] 25 (0, 0)) (by (with_reducible repeat (first | refine blk_drewN ?_ _ | refine blk_drew ?_ | refine blk_alloc ?_ _)); refine bf3 ?_ NB269_278.1; exact pbk BK269.1) hb); replace BK278 := am (blk_below (g := gb278) (o := .cells #[.string t270, .slice Ao27 t271.length co27, .slice Ao28 t274.length co28] 25 (0, 0)) (by (with_reducible repeat (first | refine blk_drewN ?_ _ | refine blk_drew ?_ | refine blk_alloc ?_ _)); exact bp3 (pbk BK278.1)) hb); replace HB := bst hb; (try clear hb); (try clear hk); obtain ⟨z40_0, z40_1, z40_2, y40_0, y40_1, y40_2⟩ := cf3 BK278.1) | (go_at_call 31; (with_reducible refine (net_Place.calls k t270 _ _ t271 _ _ t274 (⟨#[95, 99, 108, 111, 115, 101]⟩ : ByteArray) t280 _ ?side1 ?side2 ?side3 ?side4 A35.1).mono ?_); (case side1 => exact csd ((Kd.R_reads' HO273.1).2.2)); (case side2 => exact (Kd.R_reads' HO273.1).2.1); (case side3 => exact csd ((Kd.S_reads' HO276.1).2.2)); (case side4 => exact (Kd.S_reads' HO276.1).2.1); rintro e w41 ⟨rfl, hb⟩; replace HO273 := rbw HO273 hb; replace HO276 := sbw HO276 hb; replace BK268 := bbh BK268 hb; replace BK269 := bbh BK269 hb; replace BK278 := bbh BK278 hb; replace HB := bst hb; (try clear hb)))
  go_meet
  case rel => exact ⟨_, (decide (t280 ≥ 0)), prs, H', ⟨by first | omega | exact Nat.le_refl _⟩, ⟨pkr HO273.1⟩, ⟨pks HO276.1⟩, ⟨pbk BK268.1⟩, ⟨pbk BK269.1⟩, ⟨pbk BK278.1⟩, ⟨pbg⟩⟩
 clear HC17
 try clear c3 c3b0 c3b1 c4 c4b0 c4b1 c30 c30b0 z13_0 z13_1 z13_2 z16_0 z16_1 z16_2 z21_0 z21_1 z21_2 z26_0 z26_1 z26_2 z33_0 z33_1 z33_2 z38_0 z38_1 z38_2 z40_0 z40_1 z40_2 z8_0 z8_1 z8_2 y13_0 y13_1 y13_2 y16_0 y16_1 y16_2 y21_0 y21_1 y21_2 y26_0 y26_1 y26_2 y33_0 y33_1 y33_2 y38_0 y38_1 y38_2 y40_0 y40_1 y40_2 y8_0 y8_1 y8_2
 obtain ⟨kq, x31_16, rfl, HA, HJ16, HO_279001, HO_279002, BK268, BK269, BK278, HB⟩ := hcut
 obtain _ | kj16 := kq
 ·exact absurd HA.1 (by simp [workflow_Close.j0])
 have H := HA.1
 clear HA
 simp only [workflow_Close.j0] at H
 by_cases c42 : x31_16 = true
 ·subst c42
  rw [if_pos rfl] at H
  simp only [Option.some.injEq, Prod.mk.injEq] at H
  obtain ⟨rfl, rfl, rfl, rfl⟩ := H
  have hnb43 := NB269_268.1
  have hnc43 := NB268_269.1
  have hnb44 := NB269_278.1
  have hnc44 := NB278_269.1
  obtain ⟨z45_0, z45_1, z45_2, y45_0, y45_1, y45_2⟩ := cf3 BK269.1
  go_wp2
  refine bodyPost_ret (results_ct rfl _ _ gb269 25 #[.string (⟨#[]⟩ : ByteArray), .slice none 0 0, .slice none 0 0] (0, 0) _ rfl (by (with_reducible repeat (first | refine blk_drewN ?_ _ | refine blk_drew ?_ | refine blk_alloc ?_ _)); exact bp3 (pbk BK269.1)) Try.underlying25 rfl (by kernel_rfl)) rfl ?_
  exact ⟨_, _, per, knl, knl, pbg⟩
 replace c42 := Bool.eq_false_iff.mpr c42
 subst c42
 rw [if_neg Bool.false_ne_true] at H
 replace H := bnd H
 obtain ⟨⟨t281, t282⟩, A46, H⟩ := H
 (try dsimp only at H)
 replace H := bnd H
 obtain ⟨⟨t283, t284⟩, A47, H⟩ := H
 (try dsimp only at H)
 obtain ⟨y285, hy285⟩ : ∃ y_ : List (S55), y_ = (([(⟨t283, 1⟩ : S55)] : List (S55))) := ⟨_, rfl⟩
 replace H : (if t274.length < 1466015503701 then (some (t270, t271, (t274 ++ [(⟨(⟨#[95, 99, 108, 111, 115, 101]⟩ : ByteArray), y285, (([(⟨t281, 1⟩ : S55)] : List (S55))), ([] : List (S55)), 0⟩ : S48)]), 0)) else (none)) = some (r1, r2, r3, r4) := hrp hy285 H
 have Ny285 := am hy285
 clear hy285
 obtain ⟨y288, hy288⟩ : ∃ y_ : List (S55), y_ = (([(⟨t281, 1⟩ : S55)] : List (S55))) := ⟨_, rfl⟩
 replace H : (if t274.length < 1466015503701 then (some (t270, t271, (t274 ++ [(⟨(⟨#[95, 99, 108, 111, 115, 101]⟩ : ByteArray), y285, y288, ([] : List (S55)), 0⟩ : S48)]), 0)) else (none)) = some (r1, r2, r3, r4) := hrp hy288 H
 have Ny288 := am hy288
 clear hy288
 replace H := ifp H
 obtain ⟨c48, H⟩ := H
 have LMc48 := am c48
 clear c48
 obtain ⟨y291, hy291⟩ : ∃ y_ : List (S48), y_ = (t274 ++ [(⟨(⟨#[95, 99, 108, 111, 115, 101]⟩ : ByteArray), y285, y288, ([] : List (S55)), 0⟩ : S48)]) := ⟨_, rfl⟩
 replace H : (some (t270, t271, y291, 0)) = some (r1, r2, r3, r4) := hrp hy291 H
 have Ny291 := am hy291
 clear hy291
 simp only [Option.some.injEq, Prod.mk.injEq] at H
 obtain ⟨rfl, rfl, rfl, rfl⟩ := H
 have hnb49 := NB268_269.1
 have hnc49 := NB269_268.1
 have hnb50 := NB268_278.1
 have hnc50 := NB278_268.1
 obtain ⟨z51_0, z51_1, z51_2, y51_0, y51_1, y51_2⟩ := cf3 BK268.1
 go_wp2_with (first | ((with_reducible refine gate_callee (f := 12) rfl ?_); refine gC 35 Try.func12 _ (workflow_Source.calls kj16 a0_0 _ _ l0_1 _ _ l0_2 t281 t282 _ (csb HR0_1 HB) HC0_1.1 (csb HR0_2 HB) HC0_2.1 A46.1) ?_; rintro e w52 ⟨rfl, hb⟩; refine ⟨_, rfl, ?_⟩; replace HO_279001 := rbw HO_279001 hb; replace HO_279002 := sbw HO_279002 hb; replace BK268 := bbh BK268 hb; replace BK269 := bbh BK269 hb; replace BK278 := bbh BK278 hb; replace HB := bst hb; (try clear hb); obtain ⟨z53_0, z53_1, z53_2, y53_0, y53_1, y53_2⟩ := cf3 BK268.1) | ((with_reducible refine gate_callee (f := 14) rfl ?_); refine gC 40 Try.func14 _ (workflow_Sink.calls kj16 a0_0 _ _ l0_1 _ _ l0_2 t283 t284 _ (csb HR0_1 HB) HC0_1.1 (csb HR0_2 HB) HC0_2.1 A47.1) ?_; rintro e w54 ⟨rfl, hb⟩; refine ⟨_, rfl, ?_⟩; replace HO_279001 := rbw HO_279001 hb; replace HO_279002 := sbw HO_279002 hb; replace BK268 := bbh BK268 hb; replace BK269 := bbh BK269 hb; replace BK278 := bbh BK278 hb; replace HB := bst hb; (try clear hb); have hnb55 := NB278_269.1; have hnc55 := NB269_278.1; obtain ⟨z56_0, z56_1, z56_2, y56_0, y56_1, y56_2⟩ := cf3 BK278.1) | ((with_reducible refine gate_dst (N := 47) rfl ?_); refine Kd.R_lit k55 _ 55 ?hg (N := 47) ?hd (xs := ([(⟨t283, 1⟩ : S55)] : List (S55))) (inner := [.int .i64 t283, .int .i64 1]) (ok := fun _ => True) (okp := fun _ => True) ?hr ?hp (fun _ hk => hk) trivial (Below.refl _ _) (Nat.le_refl _) (by simp) ?_; (case hd => rfl); (case hg => rfl); (case hr => first | (go_simp; done) | (go_simp; rfl)); (case hp => exact (Reps.c2 (show Kd.M k55 _ _ _ (⟨t283, 1⟩ : S55) [.int .i64 t283, .int .i64 1] from (k55_mkM _ _ _ (⟨t283, 1⟩ : S55) )) (Reps.none _ _))); intro v286 w57 ho58 hb hg_ hnew_; clear hg_ hnew_; (first | rw [← Ny285.1] at ho58 | (simp only [Int.reduceToNat] at ho58; rw [← Ny285.1] at ho58)); have HO287 := am (Kd.R_lower ho58 (below_size pbg)); replace HO_279001 := rbw HO_279001 hb; replace HO_279002 := am (Kd.S_elder' (pks HO_279002.1) (Kd.R_base ho58) hb); replace BK268 := bbh BK268 hb; replace BK269 := bbh BK269 hb; replace BK278 := bbh BK278 hb; replace HB := bst hb; clear hb ho58) | ((with_reducible refine gate_dst (N := 50) rfl ?_); refine Kd.R_lit k55 _ 55 ?hg (N := 50) ?hd (xs := ([(⟨t281, 1⟩ : S55)] : List (S55))) (inner := [.int .i64 t281, .int .i64 1]) (ok := fun _ => True) (okp := fun _ => True) ?hr ?hp (fun _ hk => hk) trivial (Below.refl _ _) (Nat.le_refl _) (by simp) ?_; (case hd => rfl); (case hg => rfl); (case hr => first | (go_simp; done) | (go_simp; rfl)); (case hp => exact (Reps.c2 (show Kd.M k55 _ _ _ (⟨t281, 1⟩ : S55) [.int .i64 t281, .int .i64 1] from (k55_mkM _ _ _ (⟨t281, 1⟩ : S55) )) (Reps.none _ _))); intro v289 w59 ho60 hb hg_ hnew_; clear hg_ hnew_; (first | rw [← Ny288.1] at ho60 | (simp only [Int.reduceToNat] at ho60; rw [← Ny288.1] at ho60)); have HO290 := am (Kd.R_lower (Kd.R_new' ho60 (Kd.R_lt (pkr HO287.1))) (below_size pbg)); replace HO_279001 := rbw HO_279001 hb; replace HO_279002 := am (Kd.S_elder' (pks HO_279002.1) (Kd.R_base ho60) hb); replace HO287 := am (Kd.R_elder' (pkr HO287.1) (Kd.R_base ho60) hb); replace BK268 := bbh BK268 hb; replace BK269 := bbh BK269 hb; replace BK278 := bbh BK278 hb; replace HB := bst hb; clear hb ho60; obtain ⟨Ao61, co61, eo61⟩ := Kd.R_slice HO290.1; subst eo61; obtain ⟨Ao62, co62, eo62⟩ := Kd.R_slice HO287.1; subst eo62) | ((with_reducible refine gate_builtin (b := .append) (xs := #[.tmp 44, .tmp 52]) rfl ?_); at_builtin; refine Kd.S_append k48 (w0 := w) w.heap.size rfl (.tmp 44) (.tmp 52) 23 48 (.agg #[(.string ⟨#[]⟩), (.slice none 0 0), (.slice none 0 0), (.slice none 0 0), (.int .i64 0)]) 96 rfl Try.underlying23 info48 rfl (by decide) (by omega) (.slice Ao28 t274.length co28) t274 (⟨(⟨#[95, 99, 108, 111, 115, 101]⟩ : ByteArray), y285, y288, ([] : List (S55)), 0⟩ : S48) [.string (⟨#[95, 99, 108, 111, 115, 101]⟩ : ByteArray), .slice Ao62 y285.length co62, .slice Ao61 y288.length co61, .slice none 0 0, .int .i64 0] (fun _ => True) (fun k_ => some k_ = (.slice Ao62 y285.length co62 : Value).ownBlock ∨ some k_ = (.slice Ao61 y288.length co61 : Value).ownBlock) rfl rfl ?aP (fun k_ hk_ => hk_.elim (fun h_ => ((Kd.R_mono (ok' := fun k_ => ((fun _ => True)) k_ ∧ some k_ ≠ (.slice Ao28 t274.length co28 : Value).ownBlock) (Kd.R_apart' (HO287.1) (Kd.S_typed HO_279002.1) (by decide)) (fun k_ hk => ⟨trivial, hk.2⟩))).1 k_ h_.symm) (fun h_ => ((Kd.R_mono (ok' := fun k_ => ((fun _ => True)) k_ ∧ some k_ ≠ (.slice Ao28 t274.length co28 : Value).ownBlock) (Kd.R_apart' (HO290.1) (Kd.S_typed HO_279002.1) (by decide)) (fun k_ hk => ⟨trivial, hk.2⟩))).1 k_ h_.symm)) ?aF ?aO ?aB ?aS ?aL ?_; (case aP => exact k48_mkM _ _ _ (⟨(⟨#[95, 99, 108, 111, 115, 101]⟩ : ByteArray), y285, y288, ([] : List (S55)), 0⟩ : S48) (Kd.R_mono (Kd.R_tight rfl (Kd.R_mono (ok' := fun k_ => ((fun _ => True)) k_ ∧ some k_ ≠ (.slice Ao28 t274.length co28 : Value).ownBlock) (Kd.R_apart' (HO287.1) (Kd.S_typed HO_279002.1) (by decide)) (fun k_ hk => ⟨trivial, hk.2⟩))) (fun _ h_ => Or.inl h_)) (Kd.R_mono (Kd.R_tight rfl (Kd.R_mono (ok' := fun k_ => ((fun _ => True)) k_ ∧ some k_ ≠ (.slice Ao28 t274.length co28 : Value).ownBlock) (Kd.R_apart' (HO290.1) (Kd.S_typed HO_279002.1) (by decide)) (fun k_ hk => ⟨trivial, hk.2⟩))) (fun _ h_ => Or.inr (h_))) (Kd.R_nil _ _ _ _ _)); (case aB => exact pbg); (case aF => exact (fun _ _ => trivial)); (case aO => exact (by (with_reducible repeat (first | apply Kd.S_alloc | apply Kd.S_drewN | apply Kd.S_drew)); exact Kd.S_mono HO_279002.1 (fun k_ hk => ⟨trivial, fun e_ => e_.elim (fun h_ => hk.1.2 h_) (fun h_ => hk.2 h_)⟩))); (case aS => exact (below_size pbg)); (case aL => have := LMc48.1; omega); intro v292 w63 ho hb hg hat; rw [← Ny291.1] at ho; have HO293 := am ho; replace HO_279001 := am (Kd.R_over' (pkr HO_279001.1) (Kd.S_typed (pks HO_279002.1)) (by decide) hg); replace BK268 := am (blk_grown (g := gb268) (o := .cells #[.string a0_0, .slice A0_1 l0_1.length c0_1, .slice A0_2 l0_2.length c0_2] 25 (0, 0)) (by exact pbk BK268.1) hg (Kd.S_ne HO_279002.1 BK268.1 (by decide))); replace BK269 := am (blk_grown (g := gb269) (o := .cells #[.string (⟨#[]⟩ : ByteArray), .slice none 0 0, .slice none 0 0] 25 (0, 0)) (by exact pbk BK269.1) hg (Kd.S_ne HO_279002.1 BK269.1 (by decide))); replace BK278 := am (blk_grown (g := gb278) (o := .cells #[.string t270, .slice Ao27 t271.length co27, .slice Ao28 t274.length co28] 25 (0, 0)) (by exact pbk BK278.1) hg (Kd.S_ne HO_279002.1 BK278.1 (by decide))); replace HB := am hb; (try clear HO_279002 HO287 HO290); clear ho hb hg hat; obtain ⟨Ao64, co64, eo64⟩ := Kd.S_slice HO293.1; subst eo64; obtain ⟨z65_0, z65_1, z65_2, y65_0, y65_1, y65_2⟩ := cf3 BK278.1; obtain ⟨z66_0, z66_1, z66_2, y66_0, y66_1, y66_2⟩ := cf3 BK269.1))
 refine bodyPost_ret (results_ct rfl _ _ gb269 25 #[.string t270, .slice Ao27 t271.length co27, .slice Ao64 y291.length co64] (0, 0) _ rfl (by (with_reducible repeat (first | refine blk_drewN ?_ _ | refine blk_drew ?_ | refine blk_alloc ?_ _)); refine blk_put (cs := #[.string t270, .slice Ao27 t271.length co27, .slice none 0 0]) ?_ 2 _ rfl; (with_reducible repeat (first | refine blk_drewN ?_ _ | refine blk_drew ?_ | refine blk_alloc ?_ _)); refine blk_put (cs := #[.string t270, .slice none 0 0, .slice none 0 0]) ?_ 1 _ rfl; (with_reducible repeat (first | refine blk_drewN ?_ _ | refine blk_drew ?_ | refine blk_alloc ?_ _)); refine blk_put (cs := #[.string (⟨#[]⟩ : ByteArray), .slice none 0 0, .slice none 0 0]) ?_ 0 _ rfl; (with_reducible repeat (first | refine blk_drewN ?_ _ | refine blk_drew ?_ | refine blk_alloc ?_ _)); refine blk_far ?_ NB269_278.1 _; exact pbk BK269.1) Try.underlying25 rfl (by kernel_rfl)) rfl ?_
 exact ⟨_, _, per, by (with_reducible repeat (first | apply Kd.R_alloc | apply Kd.R_drewN | apply Kd.R_drew)); exact Kd.R_mono (Kd.R_far (p := ⟨gb269, 2, none⟩) (Kd.R_far (p := ⟨gb269, 1, none⟩) (Kd.R_far (p := ⟨gb269, 0, none⟩) (Kd.R_far (p := ⟨gb278, 2, none⟩) (Kd.R_types (Kd.R_types HO_279001.1 BK278.1 (by decide)) BK269.1 (by decide)) (fun _ hk => hk.1.2) (.slice Ao64 y291.length co64)) (fun _ hk => hk.2) _) (fun _ hk => hk.2) _) (fun _ hk => hk.2) _) (fun _ hk => trivial), by (with_reducible repeat (first | apply Kd.S_alloc | apply Kd.S_drewN | apply Kd.S_drew)); exact Kd.S_mono (Kd.S_far (p := ⟨gb269, 2, none⟩) (Kd.S_far (p := ⟨gb269, 1, none⟩) (Kd.S_far (p := ⟨gb269, 0, none⟩) (Kd.S_far (p := ⟨gb278, 2, none⟩) (Kd.S_types (Kd.S_types HO293.1 BK278.1 (by decide)) BK269.1 (by decide)) (fun _ hk => hk.1.2) (.slice Ao64 y291.length co64)) (fun _ hk => hk.2) _) (fun _ hk => hk.2) _) (fun _ hk => hk.2) _) (fun _ hk => trivial), pbg⟩

end Go.Proofs.Ytnoebjmhimehcaa.P
