-- LAID BY OUR PROGRAM OVER THE PRINT (xprint.py): Lean checks it.
import Derived.Test.YtcljocmblplhcaaPx0
import Derived.Test.YtcljocmblplhcaaPx1
import Derived.BigRegion
import Derived.RegionTactic
namespace Go.Proofs.Ytcljocmblplhcaa.P
open Go.RowKit Go.Proofs.YtcljocmblplhcaaW.PrintWords Go.Proofs.YtcljocmblplhcaaW.PrintLast Go.Proofs.YtcljocmblplhcaaW.PrintMore
attribute [local go_sem] max2_int min2_int max_two min_two max_three min_three max_four min_four   -- for this text's walks alone
set_option linter.unusedVariables false
set_option linter.unusedSimpArgs false

/-! ### digraph_Topo: function 25 -/
-- IMPORTS Derived.RegionTactic,Derived.BigRegion
mutual
def digraph_Topo.l0 : Nat → List (List Int) → List (List Int) → List Int → List Bool → Int → Int → Option (List Int × Bool)
  | 0, _, _, _, _, _, _ => none
  | k + 1, x0, x4, x5, x6, x22, x23 => if x23 < x22 then (if 0 ≤ x23 then (if x23 < (x4.length : Int) then (if x23 < (x5.length : Int) then (digraph_Topo.l0 k x0 x4 (x5.set (x23 : Int).toNat ((rd_L1 x4 x23).length : Int)) x6 x22 (wrap64 (x23 + 1))) else (none)) else (none)) else (none)) else ((digraph_Reverse.f k x4).bind fun t395 => (digraph_Topo.l1 k x0 x5 x6 t395 ([] : List Int)))
def digraph_Topo.l1 : Nat → List (List Int) → List Int → List Bool → List (List Int) → List Int → Option (List Int × Bool)
  | 0, _, _, _, _, _ => none
  | k + 1, x0, x5, x6, x8, x9 => if (x9.length : Int) < (x0.length : Int) then (digraph_Topo.l2 k x0 x5 x6 x8 x9 0) else (some (x9, true))
def digraph_Topo.j3 : Nat → List (List Int) → List Int → List Bool → List (List Int) → List Int → Int → Option (List Int × Bool)
  | 0, _, _, _, _, _, _ => none
  | k + 1, x0, x5, x6, x8, x9, x10 => if x10 = (x0.length : Int) then (some (([] : List Int), false)) else (if 0 ≤ x10 then (if x10 < (x6.length : Int) then (if x9.length < 17592186044416 then (if x10 < (x8.length : Int) then (digraph_Topo.l3 k x0 x5 (x6.set (x10 : Int).toNat true) x8 (x9 ++ [x10]) (rd_L1 x8 x10) ((rd_L1 x8 x10).length : Int) 0) else (none)) else (none)) else (none)) else (none))
def digraph_Topo.l3 : Nat → List (List Int) → List Int → List Bool → List (List Int) → List Int → List Int → Int → Int → Option (List Int × Bool)
  | 0, _, _, _, _, _, _, _, _ => none
  | k + 1, x0, x5, x6, x8, x9, x75, x76, x77 => if x77 < x76 then (if 0 ≤ x77 then (if x77 < (x75.length : Int) then (if 0 ≤ (rd x75 x77) then (if (rd x75 x77) < (x5.length : Int) then (digraph_Topo.l3 k x0 (x5.set ((rd x75 x77) : Int).toNat (wrap64 ((rd x5 (rd x75 x77)) - 1))) x6 x8 x9 x75 x76 (wrap64 (x77 + 1))) else (none)) else (none)) else (none)) else (none)) else (digraph_Topo.l1 k x0 x5 x6 x8 x9)
def digraph_Topo.l2 : Nat → List (List Int) → List Int → List Bool → List (List Int) → List Int → Int → Option (List Int × Bool)
  | 0, _, _, _, _, _, _ => none
  | k + 1, x0, x5, x6, x8, x9, x10 => if x10 < (x0.length : Int) then (if 0 ≤ x10 then (if x10 < (x6.length : Int) then (if rdOf false x6 x10 = true then (digraph_Topo.l2 k x0 x5 x6 x8 x9 (wrap64 (x10 + 1))) else (if x10 < (x5.length : Int) then (if (rd x5 x10) > 0 then (digraph_Topo.l2 k x0 x5 x6 x8 x9 (wrap64 (x10 + 1))) else (digraph_Topo.j3 k x0 x5 x6 x8 x9 x10)) else (none))) else (none)) else (none)) else (digraph_Topo.j3 k x0 x5 x6 x8 x9 x10)
end
def digraph_Topo.f (k : Nat) (l0 : List (List Int)) : Option (List Int × Bool) := (digraph_Reverse.f k l0).bind fun t384 => (if 0 ≤ (l0.length : Int) then (if ((l0.length : Int) : Int).toNat ≤ 35184372088832 then (if ((l0.length : Int) : Int).toNat ≤ 281474976710656 then (digraph_Topo.l0 k l0 t384 (List.replicate ((l0.length : Int) : Int).toNat 0) (List.replicate ((l0.length : Int) : Int).toNat false) (l0.length : Int) 0) else (none)) else (none)) else (none))
theorem digraph_Topo.mono_l : ∀ k, (∀ y0 y1 y2 y3 y4 y5, LeO (digraph_Topo.l0 k y0 y1 y2 y3 y4 y5) (digraph_Topo.l0 (k + 1) y0 y1 y2 y3 y4 y5)) ∧ (∀ y0 y1 y2 y3 y4, LeO (digraph_Topo.l1 k y0 y1 y2 y3 y4) (digraph_Topo.l1 (k + 1) y0 y1 y2 y3 y4)) ∧ (∀ y0 y1 y2 y3 y4 y5, LeO (digraph_Topo.j3 k y0 y1 y2 y3 y4 y5) (digraph_Topo.j3 (k + 1) y0 y1 y2 y3 y4 y5)) ∧ (∀ y0 y1 y2 y3 y4 y5 y6 y7, LeO (digraph_Topo.l3 k y0 y1 y2 y3 y4 y5 y6 y7) (digraph_Topo.l3 (k + 1) y0 y1 y2 y3 y4 y5 y6 y7)) ∧ (∀ y0 y1 y2 y3 y4 y5, LeO (digraph_Topo.l2 k y0 y1 y2 y3 y4 y5) (digraph_Topo.l2 (k + 1) y0 y1 y2 y3 y4 y5))
  | 0 => ⟨fun _ _ _ _ _ _ r h => by simp [digraph_Topo.l0] at h, fun _ _ _ _ _ r h => by simp [digraph_Topo.l1] at h, fun _ _ _ _ _ _ r h => by simp [digraph_Topo.j3] at h, fun _ _ _ _ _ _ _ _ r h => by simp [digraph_Topo.l3] at h, fun _ _ _ _ _ _ r h => by simp [digraph_Topo.l2] at h⟩
  | k + 1 => by
    obtain ⟨ih0, ih1, ih2, ih3, ih4⟩ := digraph_Topo.mono_l k
    refine ⟨?_, ?_, ?_, ?_, ?_⟩
    · intro y0 y1 y2 y3 y4 y5
      unfold digraph_Topo.l0
      repeat' first
      | (with_reducible exact ih0 _ _ _ _ _ _)
      | (with_reducible exact ih1 _ _ _ _ _)
      | (with_reducible exact ih2 _ _ _ _ _ _)
      | (with_reducible exact ih3 _ _ _ _ _ _ _ _)
      | (with_reducible exact ih4 _ _ _ _ _ _)
      | (with_reducible exact digraph_Reverse.mono _ _)
      | (with_reducible exact LeO.refl _)
      | (with_reducible exact LeO.none _)
      | (with_reducible refine LeO.ite ?_ ?_)
      | (with_reducible refine LeO.bind ?_ (fun _ => ?_))
      | exact ih0 _ _ _ _ _ _
      | exact ih1 _ _ _ _ _
      | exact ih2 _ _ _ _ _ _
      | exact ih3 _ _ _ _ _ _ _ _
      | exact ih4 _ _ _ _ _ _
      | exact digraph_Reverse.mono _ _
      | exact LeO.none _
      | refine LeO.ite ?_ ?_
      | refine LeO.bind ?_ (fun _ => ?_)
    · intro y0 y1 y2 y3 y4
      unfold digraph_Topo.l1
      repeat' first
      | (with_reducible exact ih0 _ _ _ _ _ _)
      | (with_reducible exact ih1 _ _ _ _ _)
      | (with_reducible exact ih2 _ _ _ _ _ _)
      | (with_reducible exact ih3 _ _ _ _ _ _ _ _)
      | (with_reducible exact ih4 _ _ _ _ _ _)
      | (with_reducible exact digraph_Reverse.mono _ _)
      | (with_reducible exact LeO.refl _)
      | (with_reducible exact LeO.none _)
      | (with_reducible refine LeO.ite ?_ ?_)
      | (with_reducible refine LeO.bind ?_ (fun _ => ?_))
      | exact ih0 _ _ _ _ _ _
      | exact ih1 _ _ _ _ _
      | exact ih2 _ _ _ _ _ _
      | exact ih3 _ _ _ _ _ _ _ _
      | exact ih4 _ _ _ _ _ _
      | exact digraph_Reverse.mono _ _
      | exact LeO.none _
      | refine LeO.ite ?_ ?_
      | refine LeO.bind ?_ (fun _ => ?_)
    · intro y0 y1 y2 y3 y4 y5
      unfold digraph_Topo.j3
      repeat' first
      | (with_reducible exact ih0 _ _ _ _ _ _)
      | (with_reducible exact ih1 _ _ _ _ _)
      | (with_reducible exact ih2 _ _ _ _ _ _)
      | (with_reducible exact ih3 _ _ _ _ _ _ _ _)
      | (with_reducible exact ih4 _ _ _ _ _ _)
      | (with_reducible exact digraph_Reverse.mono _ _)
      | (with_reducible exact LeO.refl _)
      | (with_reducible exact LeO.none _)
      | (with_reducible refine LeO.ite ?_ ?_)
      | (with_reducible refine LeO.bind ?_ (fun _ => ?_))
      | exact ih0 _ _ _ _ _ _
      | exact ih1 _ _ _ _ _
      | exact ih2 _ _ _ _ _ _
      | exact ih3 _ _ _ _ _ _ _ _
      | exact ih4 _ _ _ _ _ _
      | exact digraph_Reverse.mono _ _
      | exact LeO.none _
      | refine LeO.ite ?_ ?_
      | refine LeO.bind ?_ (fun _ => ?_)
    · intro y0 y1 y2 y3 y4 y5 y6 y7
      unfold digraph_Topo.l3
      repeat' first
      | (with_reducible exact ih0 _ _ _ _ _ _)
      | (with_reducible exact ih1 _ _ _ _ _)
      | (with_reducible exact ih2 _ _ _ _ _ _)
      | (with_reducible exact ih3 _ _ _ _ _ _ _ _)
      | (with_reducible exact ih4 _ _ _ _ _ _)
      | (with_reducible exact digraph_Reverse.mono _ _)
      | (with_reducible exact LeO.refl _)
      | (with_reducible exact LeO.none _)
      | (with_reducible refine LeO.ite ?_ ?_)
      | (with_reducible refine LeO.bind ?_ (fun _ => ?_))
      | exact ih0 _ _ _ _ _ _
      | exact ih1 _ _ _ _ _
      | exact ih2 _ _ _ _ _ _
      | exact ih3 _ _ _ _ _ _ _ _
      | exact ih4 _ _ _ _ _ _
      | exact digraph_Reverse.mono _ _
      | exact LeO.none _
      | refine LeO.ite ?_ ?_
      | refine LeO.bind ?_ (fun _ => ?_)
    · intro y0 y1 y2 y3 y4 y5
      unfold digraph_Topo.l2
      repeat' first
      | (with_reducible exact ih0 _ _ _ _ _ _)
      | (with_reducible exact ih1 _ _ _ _ _)
      | (with_reducible exact ih2 _ _ _ _ _ _)
      | (with_reducible exact ih3 _ _ _ _ _ _ _ _)
      | (with_reducible exact ih4 _ _ _ _ _ _)
      | (with_reducible exact digraph_Reverse.mono _ _)
      | (with_reducible exact LeO.refl _)
      | (with_reducible exact LeO.none _)
      | (with_reducible refine LeO.ite ?_ ?_)
      | (with_reducible refine LeO.bind ?_ (fun _ => ?_))
      | exact ih0 _ _ _ _ _ _
      | exact ih1 _ _ _ _ _
      | exact ih2 _ _ _ _ _ _
      | exact ih3 _ _ _ _ _ _ _ _
      | exact ih4 _ _ _ _ _ _
      | exact digraph_Reverse.mono _ _
      | exact LeO.none _
      | refine LeO.ite ?_ ?_
      | refine LeO.bind ?_ (fun _ => ?_)
theorem digraph_Topo.mono : ∀ a0 k, LeO (digraph_Topo.f k a0) (digraph_Topo.f (k + 1) a0) := by
  intro a0 k
  obtain ⟨ih0, ih1, ih2, ih3, ih4⟩ := digraph_Topo.mono_l k
  unfold digraph_Topo.f
  repeat' first
      | (with_reducible exact ih0 _ _ _ _ _ _)
      | (with_reducible exact ih1 _ _ _ _ _)
      | (with_reducible exact ih2 _ _ _ _ _ _)
      | (with_reducible exact ih3 _ _ _ _ _ _ _ _)
      | (with_reducible exact ih4 _ _ _ _ _ _)
      | (with_reducible exact digraph_Reverse.mono _ _)
      | (with_reducible exact LeO.refl _)
      | (with_reducible exact LeO.none _)
      | (with_reducible refine LeO.ite ?_ ?_)
      | (with_reducible refine LeO.bind ?_ (fun _ => ?_))
      | exact ih0 _ _ _ _ _ _
      | exact ih1 _ _ _ _ _
      | exact ih2 _ _ _ _ _ _
      | exact ih3 _ _ _ _ _ _ _ _
      | exact ih4 _ _ _ _ _ _
      | exact digraph_Reverse.mono _ _
      | exact LeO.none _
      | refine LeO.ite ?_ ?_
      | refine LeO.bind ?_ (fun _ => ?_)
/-- What stands while vertices are listed: open counts, marks, the graph, what is listed. -/
structure TInv (w w' : World) (N0 nn bo co : Nat) (vd vf : Value) (x5 : List Int) (x6 : List Bool) (x8 : List (List Int)) (x9 : List Int) (v9 : Value) : Prop where
  op : Kd.R (Kd.int .i64) 3 w' w.heap.size (fun k => k = bo) (.slice (some ⟨bo, 0, none⟩) nn co) x5
  dn : Kd.R Kd.bool 4 w' w.heap.size (fun _ => True) vd x6
  fw : Kd.S (Kd.slice 3 (Kd.int .i64)) 26 w' w.heap.size (fun k => k < N0 ∧ k ≠ bo) vf x8
  ou : Kd.R (Kd.int .i64) 3 w' w.heap.size (fun k => N0 ≤ k) v9 x9
  B : Below w.heap.size w w'
  n0 : N0 ≤ w'.heap.size
  bn : bo < N0
  bw : w.heap.size ≤ bo
section
variable {w w1 w2 : World} {N0 nn bo co : Nat} {vd vf v9 : Value} {x5 x9 : List Int} {x6 : List Bool} {x8 : List (List Int)}
theorem TInv.below (h : TInv w w1 N0 nn bo co vd vf x5 x6 x8 x9 v9) (hb : Below w1.heap.size w1 w2) : TInv w w2 N0 nn bo co vd vf x5 x6 x8 x9 v9 :=
  ⟨Kd.R_below h.op hb, Kd.R_below h.dn hb, Kd.S_below h.fw hb, Kd.R_below h.ou hb, h.B.trans (hb.mono h.B.size), Nat.le_trans h.n0 hb.size, h.bn, h.bw⟩
theorem TInv.setOpen (h : TInv w w1 N0 nn bo co vd vf x5 x6 x8 x9 v9) (v x : Int) : TInv w (w1.setCell ⟨bo, v.toNat, none⟩ (.int .i64 x)) N0 nn bo co vd vf (x5.set v.toNat x) x6 x8 x9 v9 := by
  obtain ⟨cells, hb⟩ := R_blk h.op
  refine ⟨(Kd.R_putg h.op v x).1, Kd.R_set h.dn hb (by decide) _ _, Kd.S_far (p := ⟨bo, v.toNat, none⟩) h.fw (fun k hk => hk.2) _, Kd.R_far (p := ⟨bo, v.toNat, none⟩) h.ou (fun k hk => by have := h.bn; show k ≠ bo; omega) _, below_set h.B h.bw, by simpa using h.n0, h.bn, h.bw⟩
theorem TInv.setDone {gd cd nd : Nat} (h : TInv w w1 N0 nn bo co (.slice (some ⟨gd, 0, none⟩) nd cd) vf x5 x6 x8 x9 v9) (v : Int) (x : Bool) : TInv w (w1.setCell ⟨gd, v.toNat, none⟩ (.bool x)) N0 nn bo co (.slice (some ⟨gd, 0, none⟩) nd cd) vf x5 (x6.set v.toNat x) x8 x9 v9 := by
  obtain ⟨cells, hb⟩ := Kd.R_typed h.dn gd (by simp [Value.ownBlock])
  have hbase := Kd.R_base h.dn gd (by simp [Value.ownBlock])
  refine ⟨Kd.R_set h.op hb (by decide) _ _, (Kd.R_putg h.dn v x).1, Kd.S_set h.fw hb (by decide) _ _, Kd.R_set h.ou hb (by decide) _ _, below_set h.B hbase, by simpa using h.n0, h.bn, h.bw⟩
theorem TInv.add {v1 : Value} {y9 : List Int} (h : TInv w w1 N0 nn bo co vd vf x5 x6 x8 x9 v9) (h1 : Kd.R (Kd.int .i64) 3 w2 w.heap.size (fun k => N0 ≤ k) v1 y9) (hb : Below w.heap.size w w2) (hg : w1.grownBy w2 v9.ownBlock) : TInv w w2 N0 nn bo co vd vf x5 x6 x8 y9 v1 := by
  have ty := Kd.R_typed h.ou
  have hn := h.n0
  have hbn := h.bn
  refine ⟨Kd.R_grown h.op hg (fun k hk he => by have := h.ou.1 k he.symm; omega), Kd.R_over' h.dn ty (by decide) hg, Kd.S_grown h.fw hg (fun k hk he => by have := h.ou.1 k he.symm; omega), h1, hb, Nat.le_trans hn hg.size, hbn, h.bw⟩
/-- A row of the graph, as a row that is read and kept. -/
theorem TInv.row {gf n cf : Nat} (h : TInv w w1 N0 nn bo co vd (.slice (some ⟨gf, 0, none⟩) n cf) x5 x6 x8 x9 v9) (v : Int) (h0 : 0 ≤ v) (h1 : v < n) :
    ∃ A c, w1.cell? ⟨gf, v.toNat, none⟩ = some (.slice A (rd_L1 x8 v).length c) ∧ Kd.R (Kd.int .i64) 3 w1 w.heap.size (fun k => k < N0 ∧ k ≠ bo) (.slice A (rd_L1 x8 v).length c) (rd_L1 x8 v) := by
  obtain ⟨c, _, ⟨u, rfl, hr⟩, hcc⟩ := Kd.S_get h.fw ([] : List Int) v h0 h1
  have hv := hcc 0 _ rfl
  rw [Nat.add_zero, show (Kd.slice 3 (Kd.int .i64)).sz = 1 from rfl, Nat.mul_one, add_plain] at hv
  obtain ⟨A, c', rfl⟩ := Kd.R_slice hr
  exact ⟨A, c', hv, Kd.R_mono hr (fun _ hk => hk.1)⟩
end

set_option maxHeartbeats 4000000 in
set_option maxRecDepth 100000 in
theorem digraph_Topo.calls (k : Nat) (A0 : Option Addr) (c0 : Nat) (l0 : List (List Int)) (r1 : List Int) (r2 : Bool) (w : World) (hr0 : Kd.C (Kd.slice 3 (Kd.int .i64)) w A0 l0.length l0) (hc0 : l0.length ≤ c0) (h : digraph_Topo.f k l0 = some (r1, r2)) :
    Calls Try.prog 25 #[.slice A0 l0.length c0] w fun e w' => ∃ v0_ : Value, e = .returned (.tuple #[v0_, .bool r2]) ∧ Kd.R (Kd.int .i64) 3 w' w.heap.size (fun _ => True) v0_ r1 ∧ Below w.heap.size w w' := by
  have HR0 := Aside0.mk hr0
  have HC0 := Aside0.mk hc0
  clear hr0 hc0
  unfold digraph_Topo.f at h
  obtain ⟨x4, hx4, h⟩ := Option.bind_eq_some_iff.mp h
  rw [if_pos (by omega)] at h
  by_cases c1 : ((l0.length : Int) : Int).toNat ≤ 35184372088832
  case neg => rw [if_neg c1] at h; cases h
  rw [if_pos c1, if_pos (by omega), Int.toNat_natCast] at h
  rw [Int.toNat_natCast] at c1
  have HX4 := Aside0.mk hx4
  have H := Aside0.mk h
  clear h hx4
  have hl0 : (0 : Int) ≤ (l0.length : Int) := by omega
  have hl1 : (l0.length : Int).toNat * 8 ≤ 281474976710656 := by omega
  have hl2 : (l0.length : Int).toNat * 1 ≤ 281474976710656 := by omega
  go_enter Try.func25, Try.ntmps25
  go_wp2_with (first
    | (go_at_call 22; refine (digraph_Reverse.calls k _ _ _ _ _ HR0.out HC0.out HX4.out).mono ?_; rintro e wb ⟨vb, rfl, ho, hb⟩; have HBk := Aside0.mk (Kd.S_mono (Kd.S_bound ho) (ok' := fun k => k < wb.heap.size) (fun k hk => hk.2.2.1)); have HBb := Aside0.mk hb; clear ho hb)
    | ((with_reducible refine gate_dst (N := 17) rfl ?_); refine Kd.R_make (w0 := w) (Kd.int .i64) w.heap.size 3 rfl (N := 17) rfl 26 _ _ rfl (l0.length : Int) rfl rfl Try.underlying26 (.int .i64 0) 8 info3 rfl (by decide) (by omega) 0 (ok := fun _ => True) (okp := fun _ => True) rfl (fun _ hk => hk) trivial hl0 hl1 HBb.out HBb.out.size ?_; intro v1 w1 ho hb hg hnew; rw [Int.toNat_natCast] at ho; obtain ⟨bo, co, e2, no1, no2, ho2⟩ := made_row ho hnew; rw [List.length_replicate] at e2 ho2; subst e2; have HB1 := Aside0.mk hb; have HO := Aside0.mk ho2; have HBk1 := Aside0.mk ((Stays.grown hg).R (Kd.S_R HBk.out)); have HBk2 := Aside0.mk (Kd.S_grown HBk.out hg (fun k _ => by simp)); clear ho hb hg hnew ho2)
    | ((with_reducible refine gate_dst (N := 20) rfl ?_); refine Kd.R_make (w0 := w) Kd.bool w.heap.size 4 rfl (N := 20) rfl 34 _ _ rfl (l0.length : Int) rfl rfl Try.underlying34 (.bool false) 1 info4 rfl (by decide) (by omega) false (ok := fun _ => True) (okp := fun _ => True) rfl (fun _ hk => hk) trivial hl0 hl2 HB1.out HB1.out.size ?_; intro v2 w2 ho hb hg hnew; rw [Int.toNat_natCast] at ho; have HD := Aside0.mk ho; have HB2 := Aside0.mk hb; have HO2 := Aside0.mk ((Stays.grown hg).R HO.out); have HBk3 := Aside0.mk (Kd.S_grown HBk2.out hg (fun k _ => by simp)); obtain ⟨A2, k2, rfl⟩ := Kd.R_slice ho; clear ho hb hg hnew))
  obtain ⟨x6, ex6⟩ : ∃ x6, x6 = List.replicate l0.length false := ⟨_, rfl⟩
  have H2 := Aside0.mk (show digraph_Topo.l0 k l0 x4 (List.replicate l0.length 0) x6 (l0.length : Int) 0 = some (r1, r2) by rw [ex6]; exact H.out)
  have HD2 := Aside0.mk (show Kd.R Kd.bool 4 w2 w.heap.size (fun _ => True) (.slice A2 l0.length k2) x6 by rw [ex6]; have := HD.out; simpa using this)
  have HNb := Aside0.mk no1
  have HNw := Aside0.mk HBb.out.size
  clear H HD ex6 HB1 HO HBk1 HBk2 HBk HBb hl1 hl2 no1 no2
  go_loopg [23] k (fun kq v23 w' => ∃ (x5 : List Int) (i : Int), v23 = .int .i64 i ∧ Aside0 (digraph_Topo.l0 kq l0 x4 x5 x6 (l0.length : Int) i = some (r1, r2)) ∧ Aside0 (kq ≤ k) ∧ Aside0 (x5.length = l0.length) ∧ Aside0 (Kd.R (Kd.int .i64) 3 w' w.heap.size (fun k => k = bo) (.slice (some ⟨bo, 0, none⟩) l0.length co) x5) ∧ Aside0 (Kd.R Kd.bool 4 w' w.heap.size (fun _ => True) (.slice A2 l0.length k2) x6) ∧ Aside0 (Kd.S (Kd.slice 3 (Kd.int .i64)) 26 w' w.heap.size (fun k => k < wb.heap.size) vb x4) ∧ Aside0 (Below w.heap.size w w'))
  case atStart => exact ⟨_, 0, rfl, H2, ⟨Nat.le_refl _⟩, ⟨by simp⟩, HO2, HD2, HBk3, HB2⟩
  case round =>
    clear H2 HO2 HD2 HBk3 HB2
    obtain ⟨x5, i, rfl, HA, HK1, HL5, HO, HD, HBk, HB⟩ := hrel
    cases gk with
    | zero => exact absurd HA.out (by simp [digraph_Topo.l0])
    | succ k1 =>
    have H := HA.out
    clear HA
    simp only [digraph_Topo.l0] at H
    by_cases d1 : i < (l0.length : Int)
    · rw [if_pos d1] at H
      have d1b : decide (i < (l0.length : Int)) = true := decide_eq_true d1
      by_cases d2 : 0 ≤ i
      case neg => rw [if_neg d2] at H; cases H
      rw [if_pos d2] at H
      by_cases d3 : i < (x4.length : Int)
      case neg => rw [if_neg d3] at H; cases H
      rw [if_pos d3, if_pos (by rw [HL5.out]; exact d1), show wrap64 (i + 1) = i + 1 by unfold wrap64; omega] at H
      have H' := Aside0.mk H
      clear H
      obtain ⟨gb, cb, rfl, _, _, _⟩ := Kd.S_form HBk.out (by omega)
      obtain ⟨c, _, ⟨u, rfl, hr⟩, hcc⟩ := Kd.S_get HBk.out ([] : List Int) i d2 d3
      have hx := hcc 0 _ rfl
      rw [Nat.add_zero, show (Kd.slice 3 (Kd.int .i64)).sz = 1 from rfl, Nat.mul_one, add_plain] at hx
      obtain ⟨A5, c5, rfl⟩ := Kd.R_slice hr
      replace hx : wr.cell? ⟨gb, i.toNat, none⟩ = some (.slice A5 (rd_L1 x4 i).length c5) := hx
      obtain ⟨hx2, hf2⟩ := Kd.R_celln (0 : Int) HO.out i d2 d1
      obtain ⟨cells, hblk⟩ := R_blk HO.out
      have HO3 := Aside0.mk ((Kd.R_putg HO.out i ((rd_L1 x4 i).length : Int)).1)
      have HD3 := Aside0.mk (Kd.R_set HD.out hblk (by decide) i.toNat (.int .i64 ((rd_L1 x4 i).length : Int)))
      have HBk3 := Aside0.mk (Kd.S_far (p := ⟨bo, i.toNat, none⟩) HBk.out (fun k hk => by have := HNb.out; show k ≠ bo; omega) (.int .i64 ((rd_L1 x4 i).length : Int)))
      clear hcc hr hblk
      go_wp2
      go_roundg k1
      case measure => have := HK1.out; omega
      case rel => exact ⟨_, _, rfl, H', ⟨by have := HK1.out; omega⟩, ⟨by rw [List.length_set]; exact HL5.out⟩, HO3, HD3, HBk3, ⟨below_set HB.out (by have := HNb.out; have := HNw.out; show w.heap.size ≤ bo; omega)⟩⟩
    · rw [if_neg d1] at H
      have d1b : decide (i < (l0.length : Int)) = false := decide_eq_false d1
      obtain ⟨x8, hx8, h⟩ := Option.bind_eq_some_iff.mp H
      have HX8 := Aside0.mk hx8
      have H' := Aside0.mk h
      obtain ⟨Ab, cb, rfl, hcb, hCb⟩ := Kd.S_reads HBk.out
      have HCb := Aside0.mk hCb
      clear H hx8 h d1 hCb
      go_wp2_with (first | (go_at_call 22; refine (digraph_Reverse.calls k1 _ _ _ _ _ HCb.out hcb HX8.out).mono ?_; rintro e w3 ⟨vf, rfl, ho, hb⟩; have HF := Aside0.mk (Kd.S_lower (Kd.S_mono (Kd.S_bound ho) (ok' := fun k => k < w3.heap.size ∧ k ≠ bo) (fun k hk => ⟨hk.2.2.1, by have h1 := Kd.R_lt HO.out bo (by simp [Value.ownBlock]); have h2 := hk.2.1; omega⟩)) HB.out.size); have HT := Aside0.mk (show TInv w w3 w3.heap.size l0.length bo co (.slice A2 l0.length k2) vf x5 x6 x8 [] (.slice none 0 0) from ⟨Kd.R_below HO.out hb, Kd.R_below HD.out hb, HF.out, Kd.R_nil _ _ _ _ _, HB.out.trans (hb.mono HB.out.size), Nat.le_refl _, by have h1 := Kd.R_lt HO.out bo (by simp [Value.ownBlock]); have h2 := hb.size; omega, by have := HNb.out; have := HNw.out; omega⟩); clear ho hb))
      obtain ⟨N0, hN0⟩ : ∃ N0, N0 = w3.heap.size := ⟨_, rfl⟩
      have HT0 := Aside0.mk (show TInv w w3 N0 l0.length bo co (.slice A2 l0.length k2) vf x5 x6 x8 [] (.slice none 0 0) by rw [hN0]; exact HT.out)
      clear hN0 HT HF HO HD HBk HB HCb
      go_loopg [9] k1 (fun kq v9 w' => ∃ (x5 : List Int) (x6 : List Bool) (x9 : List Int), Aside0 (digraph_Topo.l1 kq l0 x5 x6 x8 x9 = some (r1, r2)) ∧ Aside0 (kq ≤ k1) ∧ Aside0 (TInv w w' N0 l0.length bo co (.slice A2 l0.length k2) vf x5 x6 x8 x9 v9))
      case atStart => exact ⟨_, _, _, H', ⟨Nat.le_refl _⟩, HT0⟩
      case round =>
        clear H' HT0 d1b
        obtain ⟨x5, x6, x9, HA, HK2, HT⟩ := hrel
        cases gk with
        | zero => exact absurd HA.out (by simp [digraph_Topo.l1])
        | succ k3 =>
        have H := HA.out
        clear HA
        simp only [digraph_Topo.l1] at H
        obtain ⟨A9, c9, rfl⟩ := Kd.R_slice HT.out.ou
        by_cases d1 : (x9.length : Int) < (l0.length : Int)
        case neg =>
          rw [if_neg d1] at H
          have d1b : decide ((x9.length : Int) < (l0.length : Int)) = false := decide_eq_false d1
          have d1c : decide (x9.length < l0.length) = false := decide_eq_false (by omega)
          simp only [Option.some.injEq, Prod.mk.injEq] at H
          obtain ⟨rfl, rfl⟩ := H
          clear d1
          go_wp2
          go_ret2
          exact ⟨_, rfl, Kd.R_mono HT.out.ou (fun _ _ => trivial), HT.out.B⟩
        rw [if_pos d1] at H
        have d1b : decide ((x9.length : Int) < (l0.length : Int)) = true := decide_eq_true d1
        have d1c : decide (x9.length < l0.length) = true := decide_eq_true (by omega)
        have H2 := Aside0.mk H
        clear H
        go_upto_block 4 with (fail)
        go_cut [10] (fun v10 wc => ∃ (kq : Nat) (x10 : Int), v10 = .int .i64 x10 ∧ Aside0 (digraph_Topo.j3 kq l0 x5 x6 x8 x9 x10 = some (r1, r2)) ∧ Aside0 (kq ≤ k3) ∧ Aside0 (TInv w wc N0 l0.length bo co (.slice A2 l0.length k2) vf x5 x6 x8 x9 (.slice A9 x9.length c9)))
        case first =>
          go_wp2
          go_loopg [10] k3 (fun kq v10 w' => ∃ (x10 : Int), v10 = .int .i64 x10 ∧ Aside0 (digraph_Topo.l2 kq l0 x5 x6 x8 x9 x10 = some (r1, r2)) ∧ Aside0 (kq ≤ k3) ∧ Aside0 (TInv w w' N0 l0.length bo co (.slice A2 l0.length k2) vf x5 x6 x8 x9 (.slice A9 x9.length c9)))
          case atStart => exact ⟨0, rfl, H2, ⟨Nat.le_refl _⟩, HT⟩
          case round =>
            clear H2 HT
            obtain ⟨x10, rfl, HA, HK3, HT⟩ := hrel
            cases gk with
            | zero => exact absurd HA.out (by simp [digraph_Topo.l2])
            | succ k4 =>
            have H := HA.out
            clear HA
            simp only [digraph_Topo.l2] at H
            by_cases f1 : x10 < (l0.length : Int)
            case neg =>
              rw [if_neg f1] at H
              have f1b : decide (x10 < (l0.length : Int)) = false := decide_eq_false f1
              have H' := Aside0.mk H
              clear H f1
              go_wp2
              go_meet
              case rel => exact ⟨k4, x10, rfl, H', ⟨by have := HK3.out; omega⟩, HT⟩
            rw [if_pos f1] at H
            have f1b : decide (x10 < (l0.length : Int)) = true := decide_eq_true f1
            by_cases f2 : 0 ≤ x10
            case neg => rw [if_neg f2] at H; cases H
            rw [if_pos f2] at H
            have hl6 := (Kd.R_reads' HT.out.dn).1
            have hl5 := R_len HT.out.op
            rw [if_pos (by omega), show wrap64 (x10 + 1) = x10 + 1 by unfold wrap64; omega] at H
            obtain ⟨gd, cd, ed, _, _, _⟩ := Kd.R_form HT.out.dn (by omega)
            injection ed with ed enn ed2
            subst ed ed2
            clear enn
            obtain ⟨y1, y2⟩ := Kd.R_celln false HT.out.dn x10 f2 f1
            obtain ⟨z1, z2⟩ := Kd.R_celln (0 : Int) HT.out.op x10 f2 f1
            replace z1 : wr.cell? ⟨bo, x10.toNat, none⟩ = some (.int .i64 (rd x5 x10)) := z1
            have h15 : x10 < (x5.length : Int) := by omega
            clear hl6 hl5
            by_cases f3 : rdOf false x6 x10 = true
            · rw [if_pos f3] at H
              rw [f3] at y1
              have H' := Aside0.mk H
              clear H f3
              go_wp2
              go_roundg k4
              case measure => have := HK1.out; have := HK2.out; have := HK3.out; omega
              case rel => exact ⟨_, rfl, H', ⟨by have := HK3.out; omega⟩, HT⟩
            · rw [if_neg f3, if_pos h15] at H
              rw [Bool.eq_false_iff.mpr f3] at y1
              by_cases f4 : rd x5 x10 > 0
              · rw [if_pos f4] at H
                have f4b : decide (0 < rd x5 x10) = true := decide_eq_true f4
                have H' := Aside0.mk H
                clear H f3 f4
                go_wp2
                go_roundg k4
                case measure => have := HK1.out; have := HK2.out; have := HK3.out; omega
                case rel => exact ⟨_, rfl, H', ⟨by have := HK3.out; omega⟩, HT⟩
              · rw [if_neg f4] at H
                have f4b : decide (0 < rd x5 x10) = false := decide_eq_false f4
                have H' := Aside0.mk H
                clear H f3 f4
                go_wp2
                go_meet
                case rel => exact ⟨k4, x10, rfl, H', ⟨by have := HK3.out; omega⟩, HT⟩
        case rest =>
          clear H2 HT
          obtain ⟨kq, x10, rfl, HA, HJ, HT⟩ := hcut
          cases kq with
          | zero => exact absurd HA.out (by simp [digraph_Topo.j3])
          | succ k4 =>
          have H := HA.out
          clear HA d1b d1c d1
          simp only [digraph_Topo.j3] at H
          by_cases f1 : x10 = (l0.length : Int)
          · rw [if_pos f1] at H
            have f1b : (x10 == (l0.length : Int)) = true := beq_iff_eq.mpr f1
            simp only [Option.some.injEq, Prod.mk.injEq] at H
            obtain ⟨rfl, rfl⟩ := H
            clear f1
            go_wp2
            go_ret2
            exact ⟨_, rfl, Kd.R_nil _ _ _ _ _, HT.out.B⟩
          · rw [if_neg f1] at H
            have f1b : (x10 == (l0.length : Int)) = false := beq_eq_false_iff_ne.mpr f1
            clear f1
            by_cases f2 : 0 ≤ x10
            case neg => rw [if_neg f2] at H; cases H
            rw [if_pos f2] at H
            by_cases f3 : x10 < (x6.length : Int)
            case neg => rw [if_neg f3] at H; cases H
            rw [if_pos f3] at H
            by_cases f4 : x9.length < 17592186044416
            case neg => rw [if_neg f4] at H; cases H
            rw [if_pos f4] at H
            by_cases f5 : x10 < (x8.length : Int)
            case neg => rw [if_neg f5] at H; cases H
            rw [if_pos f5] at H
            have H' := Aside0.mk H
            obtain ⟨gd, cd, ed, _, _, _⟩ := Kd.R_form HT.out.dn (by omega)
            have hl6 := (Kd.R_reads' HT.out.dn).1
            have f6 : x10 < (l0.length : Int) := by omega
            injection ed with ed enn ed2
            subst ed ed2
            clear enn hl6 H
            obtain ⟨gf, cf, rfl, _, _, _⟩ := Kd.S_form HT.out.fw (by omega)
            obtain ⟨y1, y2⟩ := Kd.R_celln false HT.out.dn x10 f2 f6
            have HT2_ := Aside0.mk (HT.out.setDone x10 true)
            go_wp2_with (first
              | ((with_reducible refine gate_store (t := 4) (p := 67) rfl ?_); refine store_event (t := 4) (p := 67) (v := .const (.bool true)) (w1 := (wc.setCell ⟨gd, x10.toNat, none⟩ (.bool true))) rfl rfl rfl ?hr ?_; (case hr => first | (go_simp; done) | (go_simp; rfl)); intro w4 hw; have HT2 := HT2_; rw [← hw] at HT2; clear hw)
              | ((with_reducible refine gate_builtin (b := .append) (xs := #[.tmp 68, .tmp 70]) rfl ?_); at_builtin; refine Kd.R_append (Kd.int .i64) (w0 := w) w.heap.size rfl (.tmp 68) (.tmp 70) 26 3 (.int .i64 0) 8 rfl Try.underlying26 info3 rfl (by decide) (by omega) (.slice A9 x9.length c9) x9 x10 [.int .i64 x10] (fun k => N0 ≤ k) (fun _ => False) rfl rfl ?aP (fun _ hk => hk.elim) ?aF ?aO ?aB ?aS ?aL ?_; (case aP => exact rfl); (case aF => exact (fun k hk => Nat.le_trans HT2.out.n0 hk)); (case aO => exact HT2.out.ou); (case aB => exact HT2.out.B); (case aS => exact HT2.out.B.size); (case aL => omega); intro v5 w5 ho hb hg hat; have HT3 := Aside0.mk (HT2.out.add ho hb hg); obtain ⟨A7, c7, hcell, hrow⟩ := HT3.out.row x10 f2 f5; have HROW := Aside0.mk hrow; clear ho hb hg hat hrow))
            clear y1 y2 HT2 HT2_
            go_loopg [77] k4 (fun kq v77 w' => ∃ (y5 : List Int) (j : Int), v77 = .int .i64 j ∧ Aside0 (digraph_Topo.l3 kq l0 y5 (x6.set x10.toNat true) x8 (x9 ++ [x10]) (rd_L1 x8 x10) ((rd_L1 x8 x10).length : Int) j = some (r1, r2)) ∧ Aside0 (kq ≤ k4) ∧ Aside0 (TInv w w' N0 l0.length bo co (.slice (some ⟨gd, 0, none⟩) l0.length k2) (.slice (some ⟨gf, 0, none⟩) x8.length cf) y5 (x6.set x10.toNat true) x8 (x9 ++ [x10]) v5) ∧ Aside0 (Kd.R (Kd.int .i64) 3 w' w.heap.size (fun k => k < N0 ∧ k ≠ bo) (.slice A7 (rd_L1 x8 x10).length c7) (rd_L1 x8 x10)))
            case atStart => exact ⟨_, 0, rfl, H', ⟨Nat.le_refl _⟩, HT3, HROW⟩
            case round =>
              clear H' HT3 HT HROW hcell
              obtain ⟨y5, j, rfl, HA, HK4, HT, HROW⟩ := hrel
              cases gk with
              | zero => exact absurd HA.out (by simp [digraph_Topo.l3])
              | succ k5 =>
              have H := HA.out
              clear HA
              simp only [digraph_Topo.l3] at H
              by_cases e1 : j < ((rd_L1 x8 x10).length : Int)
              · rw [if_pos e1] at H
                have e1b : decide (j < ((rd_L1 x8 x10).length : Int)) = true := decide_eq_true e1
                by_cases e2 : 0 ≤ j
                case neg => rw [if_neg e2] at H; cases H
                rw [if_pos e2, if_pos e1] at H
                obtain ⟨x, ex⟩ : ∃ x, x = rd (rd_L1 x8 x10) j := ⟨_, rfl⟩
                rw [← ex] at H
                by_cases e3 : 0 ≤ x
                case neg => rw [if_neg e3] at H; cases H
                rw [if_pos e3] at H
                by_cases e4 : x < (y5.length : Int)
                case neg => rw [if_neg e4] at H; cases H
                rw [if_pos e4] at H
                have H' := Aside0.mk H
                clear H
                obtain ⟨gr, cr, er, _, _, _⟩ := Kd.R_form HROW.out (by omega)
                injection er with er enn er2
                subst er er2
                clear enn
                obtain ⟨q1, _⟩ := Kd.R_celln (0 : Int) HROW.out j e2 e1
                replace q1 : wr.cell? ⟨gr, j.toNat, none⟩ = some (.int .i64 x) := by rw [ex]; exact q1
                have e5 : x < (l0.length : Int) := by have := R_len HT.out.op; omega
                obtain ⟨q3, q4⟩ := Kd.R_celln (0 : Int) HT.out.op x e3 e5
                replace q3 : wr.cell? ⟨bo, x.toNat, none⟩ = some (.int .i64 (rd y5 x)) := q3
                clear ex e4
                go_wp2
                go_roundg k5
                case measure => have := HK1.out; have := HK2.out; have := HJ.out; have := HK4.out; omega
                case rel => exact ⟨_, _, by first | rfl | (simp; done), H', ⟨by have := HK4.out; omega⟩, ⟨HT.out.setOpen x _⟩, ⟨Kd.R_far (p := ⟨bo, x.toNat, none⟩) HROW.out (fun k hk => hk.2) _⟩⟩
              · rw [if_neg e1] at H
                have e1b : decide (j < ((rd_L1 x8 x10).length : Int)) = false := decide_eq_false e1
                have H' := Aside0.mk H
                clear H e1
                go_wp2
                go_roundg k5
                case measure => have := HK1.out; have := HK2.out; have := HJ.out; have := HK4.out; omega
                case rel => exact ⟨_, _, _, H', ⟨by have := HK2.out; have := HJ.out; have := HK4.out; omega⟩, HT⟩

end Go.Proofs.Ytcljocmblplhcaa.P
