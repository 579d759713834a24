-- LAID BY OUR PROGRAM OVER THE PRINT (xprint.py, part.py): Lean checks it.
import Derived.Test.YtnoebjmhimehcaaPx0
import Derived.Test.YtnoebjmhimehcaaPx1
import Derived.BigRegion
import Derived.Laws.EntriesVeiled
import Derived.RegionTactic
namespace Go.Proofs.Ytnoebjmhimehcaa.P
open Go.RowKit Go.Proofs.YtnoebjmhimehcaaW.PrintWords Go.Proofs.YtnoebjmhimehcaaW.PrintLast Go.Proofs.YtnoebjmhimehcaaW.PrintMore
attribute [local go_sem] max2_int min2_int max_two min_two max_three min_three max_four min_four   -- for this text's walks alone
set_option linter.unusedVariables false
set_option linter.unusedSimpArgs false

/-! ### net_Check: function 37 -/
-- IMPORTS Derived.RegionTactic,Derived.BigRegion,Derived.Laws.EntriesVeiled
/-- The names so far, in a variable of the call's own; what else stood there stays. -/
structure NInv (w0 w : World) (Bn : Nat) (ns : List ByteArray) : Prop where
 t : ∃ v, w.heap[Bn]? = some (.cells #[v] 75 (0, 0)) ∧ Kd.R Kd.string 9 w w0.heap.size (fun _ => True) v ns
 B : Below w0.heap.size w0 w
 b : w0.heap.size ≤ Bn
def Others (w w1 : World) : Prop := w.heap.size ≤ w1.heap.size ∧ ∀ (a : Nat) (c : Array Value) (t : Nat), w.heap[a]? = some (.cells c t (0, 0)) → t ≠ 75 → t ≠ 9 → w1.heap[a]? = some (.cells c t (0, 0))
theorem Others.trans {a b c : World} (h : Others a b) (k : Others b c) : Others a c := ⟨Nat.le_trans h.1 k.1, fun x cs t h1 h2 h3 => k.2 x cs t (h.2 x cs t h1 h2 h3) h2 h3⟩
theorem Others.below {w w1 : World} (hb : Below w.heap.size w w1) : Others w w1 := ⟨hb.size, fun a c t h _ _ => blk_below h hb⟩
theorem NInv.below {w0 w w1 : World} {Bn : Nat} {ns : List ByteArray} (h : NInv w0 w Bn ns) (hb : Below w.heap.size w w1) : NInv w0 w1 Bn ns := by
 obtain ⟨⟨v, h1, h2⟩, B, b⟩ := h
 exact ⟨⟨v, blk_below h1 hb, Kd.R_below h2 hb⟩, B.trans (hb.mono B.size), b⟩
theorem NInv.push {w0 w w1 : World} {Bn : Nat} {ns ns' : List ByteArray} (h : NInv w0 w Bn ns) {v v1 : Value} (hT : Kd.R Kd.string 9 w w0.heap.size (fun _ => True) v ns)
  (h1 : Kd.R Kd.string 9 w1 w0.heap.size (fun _ => True) v1 ns') (hb : Below w0.heap.size w0 w1) (hg : w.grownBy w1 v.ownBlock) : NInv w0 (w1.setCell ⟨Bn, 0, none⟩ v1) Bn ns' ∧ Others w (w1.setCell ⟨Bn, 0, none⟩ v1) ∧ w1.cell? ⟨Bn, 0, none⟩ ≠ none ∧ w1.frozen? ⟨Bn, 0, none⟩ = false := by
 obtain ⟨⟨vt, h3, h4⟩, B, b⟩ := h
 have e3 := grown_blk h3 (Kd.R_typed hT) (by decide) hg
 refine ⟨⟨⟨v1, one_setCell e3, Kd.R_set h1 e3 (by decide) _ _⟩, below_set hb b, b⟩, ⟨by simpa using hg.size, fun a c t ha t1 t2 => ?_⟩, by rw [cell_of_one e3]; simp, free_of_one e3⟩
 have ea := grown_blk ha (Kd.R_typed hT) t2 hg
 exact blk_over ea (blk_apart ea e3 t1) _
/-- One more name: an error, or the names with it. -/
def addM (ns : List ByteArray) (s : ByteArray) : Option (Int × List ByteArray) :=
 if nameB s = true then (if (ns.any fun o => o.toList == s.toList) = true then some (6, ns) else (if ns.length < 1000000 then some (0, ns ++ [s]) else none)) else some (5, ns)
theorem any_step (ns : List ByteArray) (s : ByteArray) (i : Nat) (hi : i < ns.length) : ((ns.drop i).any fun o => o.toList == s.toList) = (((rdOf ByteArray.empty ns (i : Int)).toList == s.toList) || ((ns.drop (i + 1)).any fun o => o.toList == s.toList)) := by
 rw [List.drop_eq_getElem_cons hi, List.any_cons]
 unfold rdOf
 rw [Int.toNat_natCast, List.getD_eq_getElem?_getD, List.getElem?_eq_getElem hi]
 rfl

set_option maxHeartbeats 1000000 in
set_option maxRecDepth 100000 in
theorem add_calls (w0 w : World) (Bn : Nat) (ns : List ByteArray) (s : ByteArray) (p : Int × List ByteArray) (h : NInv w0 w Bn ns) (hp : addM ns s = some p) :
  Calls Try.prog 60 #[.string s, .pointer (some ⟨Bn, 0, none⟩)] w fun e w' => e = .returned (.int .i64 p.1) ∧ NInv w0 w' Bn p.2 ∧ Others w w' := by
 have HV := Aside0.mk h
 clear h
 unfold addM at hp
 by_cases c1 : nameB s = true
 case neg =>
  rw [if_neg c1] at hp
  cases hp
  have HN := Aside0.mk (show net_Name.f s = some false by unfold net_Name.f; rw [Bool.not_eq_true] at c1; rw [c1])
  clear c1
  go_enter Try.func60, Try.ntmps60
  go_wp2_with (first | (go_at_call 59; refine (net_Name.calls _ _ _ HN.out).mono ?_; rintro e w' ⟨rfl, hb⟩; have HB := Aside0.mk hb; clear hb))
  go_ret
  exact ⟨rfl, HV.out.below HB.out, Others.below HB.out⟩
 rw [if_pos c1] at hp
 have HN := Aside0.mk (show net_Name.f s = some true by unfold net_Name.f; rw [c1])
 have HP := Aside0.mk hp
 clear c1 hp
 go_enter Try.func60, Try.ntmps60
 go_wp2_with (first | (go_at_call 59; refine (net_Name.calls _ _ _ HN.out).mono ?_; rintro e w1 ⟨rfl, hb⟩; have HV1 := Aside0.mk (HV.out.below hb); have HO1 := Aside0.mk (Others.below hb); obtain ⟨vt, ht1, ht2⟩ := HV1.out.t; obtain ⟨At, ct, rfl⟩ := Kd.R_slice ht2; have ct1 := cell_of_one ht1; have HC := Aside0.mk ht1; have HT := Aside0.mk ht2; clear hb ht1 ht2))
 clear HV
 have HD := Aside0.mk (show (ns.any fun o => o.toList == s.toList) = ((ns.drop 0).any fun o => o.toList == s.toList) by rw [List.drop_zero])
 go_loopg [11] ns.length (fun kq v11 w' => ∃ i : Nat, v11 = .int .i64 i ∧ Aside0 (kq = ns.length - i) ∧ Aside0 (i ≤ ns.length) ∧ Aside0 ((ns.any fun o => o.toList == s.toList) = ((ns.drop i).any fun o => o.toList == s.toList)) ∧ Aside0 (w'.heap[Bn]? = some (.cells #[.slice At ns.length ct] 75 (0, 0))) ∧ Aside0 (Kd.R Kd.string 9 w' w0.heap.size (fun _ => True) (.slice At ns.length ct) ns) ∧ Aside0 (NInv w0 w' Bn ns) ∧ Aside0 (Others w w'))
 case atStart => exact ⟨0, rfl, ⟨rfl⟩, ⟨Nat.zero_le _⟩, HD, HC, HT, HV1, HO1⟩
 case round =>
  clear HD HC HT HV1 HO1 ct1
  obtain ⟨i, rfl, HK, HI, HD, HC, HT, HV1, HO1⟩ := hrel
  by_cases d1 : i < ns.length
  ·have d1b : decide ((i : Int) < (ns.length : Int)) = true := decide_eq_true (by omega)
   have d1c : decide (i < ns.length) = true := decide_eq_true d1
   obtain ⟨gt, gc, eg, _, _, _⟩ := Kd.R_form HT.out (by omega)
   injection eg with eg _ eg2
   subst eg eg2
   obtain ⟨y1, y2⟩ := Kd.R_celln ByteArray.empty HT.out (i : Int) (by omega) (by omega)
   have HS := Aside0.mk (any_step ns s i d1)
   have D1 := Aside0.mk d1
   rw [Int.toNat_natCast] at y1 y2
   have HM := Aside0.mk (Kd.R_reads' HT.out).2.2.2.1
   cases d2 : ((rdOf ByteArray.empty ns (i : Int)).toList == s.toList) with
   | true =>
    have HP2 := Aside0.mk (show p = (6, ns) by
     have hp := HP.out
     rw [HD.out, HS.out, d2] at hp
     simpa using hp.symm)
    clear HP
    go_wp2
    go_ret
    have e_ := HP2.out
    subst e_
    exact ⟨rfl, HV1.out, HO1.out⟩
   | false =>
    go_wp2
    go_roundg (ns.length - (i + 1))
    case measure => have := HK.out; have := D1.out; omega
    case rel => exact ⟨i + 1, by congr 1; have := HM.out; have := D1.out; (first | omega | (unfold wrap64; omega) | (show wrap64 _ = _; unfold wrap64; omega)), ⟨rfl⟩, ⟨D1.out⟩, ⟨by rw [HD.out, HS.out, d2, Bool.false_or]⟩, HC, HT, HV1, HO1⟩
  ·have d1b : decide ((i : Int) < (ns.length : Int)) = false := decide_eq_false (by omega)
   have d1c : decide (i < ns.length) = false := decide_eq_false d1
   have hp := HP.out
   have hd : (ns.any fun o => o.toList == s.toList) = false := by rw [HD.out, List.drop_eq_nil_of_le (by omega)]; rfl
   rw [hd, if_neg Bool.false_ne_true] at hp
   by_cases d3 : ns.length < 1000000
   case neg => rw [if_neg d3] at hp; cases hp
   rw [if_pos d3] at hp
   have HP2 := Aside0.mk (Option.some.inj hp).symm
   have D3 := Aside0.mk d3
   have cb := cell_of_one HC.out
   clear hp hd HP d3
   go_wp2_with (first
    | ((with_reducible refine gate_builtin (b := .append) (xs := #[.tmp 19, .tmp 21]) rfl ?_); at_builtin; refine Kd.R_append Kd.string (w0 := w0) w0.heap.size rfl (.tmp 19) (.tmp 21) 75 9 (.string ⟨#[]⟩) 16 rfl Try.underlying75 info9 rfl (by decide) (by omega) (.slice At ns.length ct) ns s [.string s] (fun _ => True) (fun _ => False) rfl rfl ?aP (fun _ hk => hk.elim) ?aF ?aO ?aB ?aS ?aL ?_; (case aP => exact rfl); (case aF => exact (fun _ _ => trivial)); (case aO => exact HT.out); (case aB => exact HV1.out.B); (case aS => exact HV1.out.B.size); (case aL => have := D3.out; omega); intro v2 w2 ho hb hg hat; obtain ⟨A2, k2, rfl⟩ := Kd.R_slice ho; have HX := Aside0.mk (NInv.push HV1.out HT.out ho hb hg); obtain ⟨c2, hc2⟩ := Option.ne_none_iff_exists'.mp HX.out.2.2.1; have hf2 := HX.out.2.2.2; clear ho hb hg hat))
   go_ret
   have e_ := HP2.out
   subst e_
   have x_ := HX.out
   rw [List.length_append] at x_
   exact ⟨rfl, x_.1, HO1.out.trans x_.2.1⟩

def net_Check.l1 : Nat → List S52 → List S48 → List ByteArray → Int → Option (Int × Int)
 | 0, _, _, _, _ => none
 | k + 1, l1, l2, ns, i => if i < (l2.length : Int) then (if 0 ≤ i then ((addM ns (rd_T48 l2 i).f0).bind fun p => if p.1 = 0 then ((net_checkTrans.f k (rd_T48 l2 i).f0 (rd_T48 l2 i).f1 (rd_T48 l2 i).f2 (rd_T48 l2 i).f3 (rd_T48 l2 i).f4 (l1.length : Int)).bind fun e => if e = 0 then net_Check.l1 k l1 l2 p.2 (wrap64 (i + 1)) else some (e, wrap64 ((l1.length : Int) + i))) else some (p.1, wrap64 ((l1.length : Int) + i))) else none) else some (0, 0)
def net_Check.l0 : Nat → List S52 → List S48 → List ByteArray → Int → Option (Int × Int)
 | 0, _, _, _, _ => none
 | k + 1, l1, l2, ns, i => if i < (l1.length : Int) then (if 0 ≤ i then ((addM ns (rd_T52 l1 i).f0).bind fun p => if p.1 = 0 then ((net_checkPlace.f (rd_T52 l1 i).f0 (rd_T52 l1 i).f1 (rd_T52 l1 i).f2).bind fun e => if e = 0 then net_Check.l0 k l1 l2 p.2 (wrap64 (i + 1)) else some (e, i)) else some (p.1, i)) else none) else net_Check.l1 k l1 l2 ns 0
def net_Check.f (k : Nat) (a0_0 : ByteArray) (l0_1 : List (S52)) (l0_2 : List (S48)) : Option (Int × Int) := if nameB a0_0 = true then (if (l0_1.length : Int) < 1 ∨ (24 : Int) < (l0_1.length : Int) ∨ (24 : Int) < (l0_2.length : Int) then some (2, 0) else net_Check.l0 k l0_1 l0_2 [] 0) else some (5, 0)
theorem net_Check.mono_l : ∀ k, (∀ y0 y1 y2 y3, LeO (net_Check.l0 k y0 y1 y2 y3) (net_Check.l0 (k + 1) y0 y1 y2 y3)) ∧ (∀ y0 y1 y2 y3, LeO (net_Check.l1 k y0 y1 y2 y3) (net_Check.l1 (k + 1) y0 y1 y2 y3))
 | 0 => ⟨fun _ _ _ _ r h => by simp [net_Check.l0] at h, fun _ _ _ _ r h => by simp [net_Check.l1] at h⟩
 | k + 1 => by
  obtain ⟨ih0, ih1⟩ := net_Check.mono_l k
  refine ⟨?_, ?_⟩
  ·intro y0 y1 y2 y3
   unfold net_Check.l0
   repeat' first | exact ih0 _ _ _ _ | exact ih1 _ _ _ _ | exact LeO.refl _ | exact LeO.none _ | refine LeO.ite ?_ ?_ | refine LeO.bind (LeO.refl _) (fun _ => ?_)
  ·intro y0 y1 y2 y3
   unfold net_Check.l1
   repeat' first | exact ih1 _ _ _ _ | exact net_checkTrans.mono _ _ _ _ _ _ _ | exact LeO.refl _ | exact LeO.none _ | refine LeO.ite ?_ ?_ | refine LeO.bind (LeO.refl _) (fun _ => ?_) | refine LeO.bind (net_checkTrans.mono _ _ _ _ _ _ _) (fun _ => ?_)
theorem net_Check.mono : ∀ a0 a1 a2 k, LeO (net_Check.f k a0 a1 a2) (net_Check.f (k + 1) a0 a1 a2) := by
 intro a0 a1 a2 k
 unfold net_Check.f
 exact LeO.ite (LeO.ite (LeO.refl _) ((net_Check.mono_l k).1 _ _ _ _)) (LeO.refl _)
/-- What stands while a net is checked: the net, the result, the names. -/
structure KInv (w0 w : World) (Bx Br Bn : Nat) (net : Array Value) (ns : List ByteArray) : Prop where
 nv : NInv w0 w Bn ns
 bx : w.heap[Bx]? = some (.cells net 25 (0, 0))
 br : w.heap[Br]? = some (.cells #[.int .i64 0, .int .i64 0] 60 (0, 0))
 rb : w0.heap.size ≤ Br
theorem KInv.move {w0 w w1 : World} {Bx Br Bn : Nat} {net : Array Value} {ns ns' : List ByteArray} (h : KInv w0 w Bx Br Bn net ns) (hn : NInv w0 w1 Bn ns') (o : Others w w1) : KInv w0 w1 Bx Br Bn net ns' := ⟨hn, o.2 _ _ _ h.bx (by decide) (by decide), o.2 _ _ _ h.br (by decide) (by decide), h.rb⟩
theorem KInv.below {w0 w w1 : World} {Bx Br Bn : Nat} {net : Array Value} {ns : List ByteArray} (h : KInv w0 w Bx Br Bn net ns) (hb : Below w.heap.size w w1) : KInv w0 w1 Bx Br Bn net ns := h.move (h.nv.below hb) (Others.below hb)
theorem heapArc : Kd.Heap k55 := Kd.heap_iso _ (Kd.heap_pair (Kd.heap_int _) (Kd.heap_int _))
/-- The result is written. -/
theorem res_put {W : World} {Br : Nat} {x y a b : Int} (h : W.heap[Br]? = some (.cells #[.int .i64 x, .int .i64 y] 60 (0, 0))) : ((W.setCell ⟨Br, 0, none⟩ (.int .i64 a)).setCell ⟨Br, 1, none⟩ (.int .i64 b)).heap[Br]? = some (.cells #[.int .i64 a, .int .i64 b] 60 (0, 0)) :=
 blk_put (cs := #[.int .i64 a, .int .i64 y]) (blk_put (cs := #[.int .i64 x, .int .i64 y]) h 0 _ rfl) 1 _ rfl
theorem res_facts {W : World} {Br : Nat} (h : W.heap[Br]? = some (.cells #[.int .i64 0, .int .i64 0] 60 (0, 0))) : W.cell? ⟨Br, 0, none⟩ = some (.int .i64 0) ∧ W.cell? ⟨Br, 1, none⟩ = some (.int .i64 0) ∧ W.frozen? ⟨Br, 0, none⟩ = false ∧ W.frozen? ⟨Br, 1, none⟩ = false := ⟨(blk_cell h 0).trans rfl, (blk_cell h 1).trans rfl, blk_frozen h 0, blk_frozen h 1⟩
theorem net_facts {W : World} {B : Nat} {x y z : Value} (h : W.heap[B]? = some (.cells #[x, y, z] 25 (0, 0))) : W.cell? ⟨B, 0, none⟩ = some x ∧ W.cell? ⟨B, 1, none⟩ = some y ∧ W.cell? ⟨B, 2, none⟩ = some z := ⟨(blk_cell h 0).trans rfl, (blk_cell h 1).trans rfl, (blk_cell h 2).trans rfl⟩
theorem place_facts {W : World} {B : Nat} {x y z : Value} (h : W.heap[B]? = some (.cells #[x, y, z] 52 (0, 0))) : W.cell? ⟨B, 0, none⟩ = some x ∧ W.cell? ⟨B, 1, none⟩ = some y ∧ W.cell? ⟨B, 2, none⟩ = some z := ⟨(blk_cell h 0).trans rfl, (blk_cell h 1).trans rfl, (blk_cell h 2).trans rfl⟩
theorem trans_facts {W : World} {B : Nat} {x y z u v : Value} (h : W.heap[B]? = some (.cells #[x, y, z, u, v] 48 (0, 0))) : W.cell? ⟨B, 0, none⟩ = some x ∧ W.cell? ⟨B, 1, none⟩ = some y ∧ W.cell? ⟨B, 2, none⟩ = some z ∧ W.cell? ⟨B, 3, none⟩ = some u ∧ W.cell? ⟨B, 4, none⟩ = some v := ⟨(blk_cell h 0).trans rfl, (blk_cell h 1).trans rfl, (blk_cell h 2).trans rfl, (blk_cell h 3).trans rfl, (blk_cell h 4).trans rfl⟩

set_option maxHeartbeats 4000000 in
set_option maxRecDepth 100000 in
theorem net_Check.calls (k : Nat) (a0_0 : ByteArray) (A0_1 : Option Addr) (c0_1 : Nat) (l0_1 : List (S52)) (A0_2 : Option Addr) (c0_2 : Nat) (l0_2 : List (S48)) (r1 : Int) (r2 : Int) (w : World) (hr0_1 : Kd.C k52 w A0_1 l0_1.length l0_1) (hc0_1 : l0_1.length ≤ c0_1) (hr0_2 : Kd.C k48 w A0_2 l0_2.length l0_2) (hc0_2 : l0_2.length ≤ c0_2) (h : net_Check.f k a0_0 l0_1 l0_2 = some (r1, r2)) :
  Calls Try.prog 37 #[.agg #[.string a0_0, .slice A0_1 l0_1.length c0_1, .slice A0_2 l0_2.length c0_2]] w fun e w' => e = .returned (.agg #[.int .i64 r1, .int .i64 r2]) ∧ Below w.heap.size w w' := by
 have hu1 := Try.underlying25
 have hu2 := Try.underlying60
 have hu3 := Try.underlying52
 have hu4 := Try.underlying48
 have HR1 := Aside0.mk hr0_1
 have HC1 := Aside0.mk hc0_1
 have HR2 := Aside0.mk hr0_2
 have HC2 := Aside0.mk hc0_2
 clear hr0_1 hc0_1 hr0_2 hc0_2
 have W1 : (w.alloc (.cells #[.string a0_0, .slice A0_1 l0_1.length c0_1, .slice A0_2 l0_2.length c0_2] 25)).heap[w.heap.size]? = some (.cells #[.string a0_0, .slice A0_1 l0_1.length c0_1, .slice A0_2 l0_2.length c0_2] 25 (0, 0)) := alloc_new _ _
 have hs1 : (w.alloc (.cells #[.string a0_0, .slice A0_1 l0_1.length c0_1, .slice A0_2 l0_2.length c0_2] 25)).heap.size = w.heap.size + 1 := by simp
 obtain ⟨w2, hw2⟩ : ∃ w2 : World, w2 = (w.alloc (.cells #[.string a0_0, .slice A0_1 l0_1.length c0_1, .slice A0_2 l0_2.length c0_2] 25)).alloc (.cells #[.int .i64 0, .int .i64 0] 60) := ⟨_, rfl⟩
 have BX2 := Aside0.mk (show w2.heap[w.heap.size]? = some (.cells #[.string a0_0, .slice A0_1 l0_1.length c0_1, .slice A0_2 l0_2.length c0_2] 25 (0, 0)) by rw [hw2]; exact blk_below W1 (below_alloc (Below.refl _ _) _))
 have BR2 := Aside0.mk (show w2.heap[w.heap.size + 1]? = some (.cells #[.int .i64 0, .int .i64 0] 60 (0, 0)) by rw [hw2, ← hs1]; exact alloc_new _ _)
 have BB2 := Aside0.mk (show Below w.heap.size w w2 by rw [hw2]; exact below_alloc (below_alloc (Below.refl _ _) _) _)
 obtain ⟨cx0, cx1, cx2⟩ := net_facts BX2.out
 obtain ⟨cr0, cr1, fr0, fr1⟩ := res_facts BR2.out
 rw [hw2] at cx0 cx1 cx2 cr0 cr1 fr0 fr1
 have HW2 := Aside0.mk hw2
 clear W1 hs1 hw2
 unfold net_Check.f at h
 by_cases n1 : nameB a0_0 = true
 case neg =>
  rw [if_neg n1] at h
  simp only [Option.some.injEq, Prod.mk.injEq] at h
  obtain ⟨rfl, rfl⟩ := h
  have HN := Aside0.mk (show net_Name.f a0_0 = some false by unfold net_Name.f; rw [Bool.not_eq_true] at n1; rw [n1])
  clear n1
  go_enter Try.func37, Try.ntmps37
  go_wp2_with (first | (go_at_call 59; refine (net_Name.calls _ _ _ HN.out).mono ?_; rintro e w3 ⟨rfl, hb⟩; rw [← HW2.out] at hb; have BX3 := Aside0.mk (blk_below BX2.out hb); have BR3 := Aside0.mk (blk_below BR2.out hb); have BB3 := Aside0.mk (BB2.out.trans (hb.mono BB2.out.size)); obtain ⟨dx0, dx1, dx2⟩ := net_facts BX3.out; obtain ⟨dr0, dr1, er0, er1⟩ := res_facts BR3.out; clear hb))
  refine bodyPost_ret (results_cell_row rfl _ _ (w.heap.size + 1) 60 #[.int .i64 5, .int .i64 0] (0, 0) _ rfl (res_put BR3.out) Try.underlying60 rfl (by kernel_rfl)) rfl ?_
  exact ⟨rfl, below_set (below_set BB3.out (Nat.le_succ _)) (Nat.le_succ _)⟩
 rw [if_pos n1] at h
 have HN := Aside0.mk (show net_Name.f a0_0 = some true by unfold net_Name.f; rw [n1])
 clear n1
 by_cases z : (l0_1.length : Int) < 1 ∨ (24 : Int) < (l0_1.length : Int) ∨ (24 : Int) < (l0_2.length : Int)
 case pos =>
  rw [if_pos z] at h
  simp only [Option.some.injEq, Prod.mk.injEq] at h
  obtain ⟨rfl, rfl⟩ := h
  by_cases z1 : (l0_1.length : Int) < 1
  case pos =>
   have z1b : decide ((l0_1.length : Int) < 1) = true := decide_eq_true (by omega)
   have z1c : decide (l0_1.length < 1) = true := decide_eq_true (by omega)
   clear z
   go_enter Try.func37, Try.ntmps37
   go_wp2_with (first | (go_at_call 59; refine (net_Name.calls _ _ _ HN.out).mono ?_; rintro e w3 ⟨rfl, hb⟩; rw [← HW2.out] at hb; have BX3 := Aside0.mk (blk_below BX2.out hb); have BR3 := Aside0.mk (blk_below BR2.out hb); have BB3 := Aside0.mk (BB2.out.trans (hb.mono BB2.out.size)); obtain ⟨dx0, dx1, dx2⟩ := net_facts BX3.out; obtain ⟨dr0, dr1, er0, er1⟩ := res_facts BR3.out; clear hb))
   refine bodyPost_ret (results_cell_row rfl _ _ (w.heap.size + 1) 60 #[.int .i64 2, .int .i64 0] (0, 0) _ rfl (res_put BR3.out) Try.underlying60 rfl (by kernel_rfl)) rfl ?_
   exact ⟨rfl, below_set (below_set BB3.out (Nat.le_succ _)) (Nat.le_succ _)⟩
  have z1b : decide ((l0_1.length : Int) < 1) = false := decide_eq_false (by omega)
  have z1c : decide (l0_1.length < 1) = false := decide_eq_false (by omega)
  by_cases z2 : 24 < (l0_1.length : Int)
  case pos =>
   have z2b : decide (24 < (l0_1.length : Int)) = true := decide_eq_true (by omega)
   have z2c : decide (24 < l0_1.length) = true := decide_eq_true (by omega)
   clear z
   go_enter Try.func37, Try.ntmps37
   go_wp2_with (first | (go_at_call 59; refine (net_Name.calls _ _ _ HN.out).mono ?_; rintro e w3 ⟨rfl, hb⟩; rw [← HW2.out] at hb; have BX3 := Aside0.mk (blk_below BX2.out hb); have BR3 := Aside0.mk (blk_below BR2.out hb); have BB3 := Aside0.mk (BB2.out.trans (hb.mono BB2.out.size)); obtain ⟨dx0, dx1, dx2⟩ := net_facts BX3.out; obtain ⟨dr0, dr1, er0, er1⟩ := res_facts BR3.out; clear hb))
   refine bodyPost_ret (results_cell_row rfl _ _ (w.heap.size + 1) 60 #[.int .i64 2, .int .i64 0] (0, 0) _ rfl (res_put BR3.out) Try.underlying60 rfl (by kernel_rfl)) rfl ?_
   exact ⟨rfl, below_set (below_set BB3.out (Nat.le_succ _)) (Nat.le_succ _)⟩
  have z2b : decide (24 < (l0_1.length : Int)) = false := decide_eq_false (by omega)
  have z2c : decide (24 < l0_1.length) = false := decide_eq_false (by omega)
  have z3 : 24 < (l0_2.length : Int) := (z.resolve_left z1).resolve_left z2
  have z3b : decide (24 < (l0_2.length : Int)) = true := decide_eq_true (by omega)
  have z3c : decide (24 < l0_2.length) = true := decide_eq_true (by omega)
  clear z
  go_enter Try.func37, Try.ntmps37
  go_wp2_with (first | (go_at_call 59; refine (net_Name.calls _ _ _ HN.out).mono ?_; rintro e w3 ⟨rfl, hb⟩; rw [← HW2.out] at hb; have BX3 := Aside0.mk (blk_below BX2.out hb); have BR3 := Aside0.mk (blk_below BR2.out hb); have BB3 := Aside0.mk (BB2.out.trans (hb.mono BB2.out.size)); obtain ⟨dx0, dx1, dx2⟩ := net_facts BX3.out; obtain ⟨dr0, dr1, er0, er1⟩ := res_facts BR3.out; clear hb))
  refine bodyPost_ret (results_cell_row rfl _ _ (w.heap.size + 1) 60 #[.int .i64 2, .int .i64 0] (0, 0) _ rfl (res_put BR3.out) Try.underlying60 rfl (by kernel_rfl)) rfl ?_
  exact ⟨rfl, below_set (below_set BB3.out (Nat.le_succ _)) (Nat.le_succ _)⟩
 rw [if_neg z] at h
 have z1b : decide ((l0_1.length : Int) < 1) = false := decide_eq_false (by omega)
 have z1c : decide (l0_1.length < 1) = false := decide_eq_false (by omega)
 have z2b : decide (24 < (l0_1.length : Int)) = false := decide_eq_false (by omega)
 have z2c : decide (24 < l0_1.length) = false := decide_eq_false (by omega)
 have z3b : decide (24 < (l0_2.length : Int)) = false := decide_eq_false (by omega)
 have z3c : decide (24 < l0_2.length) = false := decide_eq_false (by omega)
 have hmf : ∀ (fn : Fn) (first cap : Array Value) (w : World), (Instr.makeFunc fn first cap).run Try.prog w = .ok (.func fn first cap) w := fun _ _ _ _ => rfl
 have H := Aside0.mk h
 clear h
 go_enter Try.func37, Try.ntmps37
 go_wp2_with (first | (go_at_call 59; refine (net_Name.calls _ _ _ HN.out).mono ?_; rintro e w3 ⟨rfl, hb⟩; rw [← HW2.out] at hb; have BX3 := Aside0.mk (blk_below BX2.out hb); have BR3 := Aside0.mk (blk_below BR2.out hb); have BB3 := Aside0.mk (BB2.out.trans (hb.mono BB2.out.size)); obtain ⟨dx0, dx1, dx2⟩ := net_facts BX3.out; obtain ⟨dr0, dr1, er0, er1⟩ := res_facts BR3.out; clear hb; obtain ⟨ex0, ex1, ex2⟩ := net_facts (blk_below BX3.out (below_alloc (Below.refl _ _) (.cells #[.slice none 0 0] 75)))))
 have HK := Aside0.mk (show KInv w (w3.alloc (.cells #[.slice none 0 0] 75)) w.heap.size (w.heap.size + 1) w3.heap.size #[.string a0_0, .slice A0_1 l0_1.length c0_1, .slice A0_2 l0_2.length c0_2] [] from ⟨⟨⟨.slice none 0 0, alloc_new _ _, Kd.R_nil _ _ _ _ _⟩, below_alloc BB3.out _, BB3.out.size⟩, blk_below BX3.out (below_alloc (Below.refl _ _) _), blk_below BR3.out (below_alloc (Below.refl _ _) _), Nat.le_succ _⟩)
 obtain ⟨Bn, hBn⟩ : ∃ Bn, Bn = w3.heap.size := ⟨_, rfl⟩
 rw [← hBn] at HK ⊢
 clear ex0 ex1 ex2 dx0 dx1 dx2 dr0 dr1 er0 er1 BX3 BR3 BB3 hBn cx0 cx1 cx2 cr0 cr1 fr0 fr1 BX2 BR2 BB2 HW2 z1b z1c z2b z2c z3b z3c z HN
 go_loopg [37] k (fun kq v37 w' => ∃ (i : Int) (ns : List ByteArray), v37 = .int .i64 i ∧ Aside0 (net_Check.l0 kq l0_1 l0_2 ns i = some (r1, r2)) ∧ Aside0 (kq ≤ k) ∧ Aside0 (KInv w w' w.heap.size (w.heap.size + 1) Bn #[.string a0_0, .slice A0_1 l0_1.length c0_1, .slice A0_2 l0_2.length c0_2] ns))
 case atStart => exact ⟨0, [], rfl, H, ⟨Nat.le_refl _⟩, HK⟩
 case round =>
  clear H HK
  obtain ⟨i, ns, rfl, HA, HJ, HK⟩ := hrel
  cases gk with
  | zero => exact absurd HA.out (by simp [net_Check.l0])
  | succ k1 =>
  have H := HA.out
  clear HA
  simp only [net_Check.l0] at H
  by_cases d1 : i < (l0_1.length : Int)
  case neg =>
   rw [if_neg d1] at H
   have d1b : decide (i < (l0_1.length : Int)) = false := decide_eq_false d1
   have H' := Aside0.mk H
   clear H d1
   obtain ⟨dx0, dx1, dx2⟩ := net_facts HK.out.bx
   go_wp2
   clear dx0 dx1 dx2 d1b
   go_loopg [59] k1 (fun kq v59 w' => ∃ (i : Int) (ns : List ByteArray), v59 = .int .i64 i ∧ Aside0 (net_Check.l1 kq l0_1 l0_2 ns i = some (r1, r2)) ∧ Aside0 (kq ≤ k1) ∧ Aside0 (KInv w w' w.heap.size (w.heap.size + 1) Bn #[.string a0_0, .slice A0_1 l0_1.length c0_1, .slice A0_2 l0_2.length c0_2] ns))
   case atStart => exact ⟨0, ns, rfl, H', ⟨Nat.le_refl _⟩, HK⟩
   case round =>
    clear H' HK
    obtain ⟨i, ns, rfl, HA, HJ2, HK⟩ := hrel
    cases gk with
    | zero => exact absurd HA.out (by simp [net_Check.l1])
    | succ k3 =>
    have H := HA.out
    clear HA
    simp only [net_Check.l1] at H
    by_cases d1 : i < (l0_2.length : Int)
    case neg =>
     rw [if_neg d1] at H
     have d1b : decide (i < (l0_2.length : Int)) = false := decide_eq_false d1
     simp only [Option.some.injEq, Prod.mk.injEq] at H
     obtain ⟨rfl, rfl⟩ := H
     obtain ⟨dr0, dr1, er0, er1⟩ := res_facts HK.out.br
     clear d1
     go_wp2
     refine bodyPost_ret (results_cell_row rfl _ _ (w.heap.size + 1) 60 #[.int .i64 0, .int .i64 0] (0, 0) _ rfl (res_put HK.out.br) Try.underlying60 rfl (by kernel_rfl)) rfl ?_
     exact ⟨rfl, below_set (below_set HK.out.nv.B (Nat.le_succ _)) (Nat.le_succ _)⟩
    rw [if_pos d1] at H
    have d1b : decide (i < (l0_2.length : Int)) = true := decide_eq_true d1
    by_cases d2 : 0 ≤ i
    case neg => rw [if_neg d2] at H; cases H
    rw [if_pos d2] at H
    obtain ⟨⟨p1, ns1⟩, hp, H⟩ := Option.bind_eq_some_iff.mp H
    have HP := Aside0.mk hp
    clear hp
    obtain ⟨ad, A1, c1, A2, c2, A3, c3, eA, y0, y1, y2, y3, y4, m1, g1, m2, g2, m3, g3⟩ := at_T48 HR2.out i d2 d1
    subst eA
    have u0 := pw_cell_below HK.out.nv.B y0
    have u1 := pw_cell_below HK.out.nv.B y1
    have u2 := pw_cell_below HK.out.nv.B y2
    have u3 := pw_cell_below HK.out.nv.B y3
    have u4 := pw_cell_below HK.out.nv.B y4
    clear y0 y1 y2 y3 y4
    have M1 := Aside0.mk m1
    have M2 := Aside0.mk m2
    have M3 := Aside0.mk m3
    have G1 := Aside0.mk g1
    have G2 := Aside0.mk g2
    have G3 := Aside0.mk g3
    clear m1 m2 m3 g1 g2 g3
    have q1 : (0 ≤ i) = True := eq_true d2
    have q2 : (i < (l0_2.length : Int)) = True := eq_true d1
    have HK1 := Aside0.mk (HK.out.below (below_alloc (Below.refl _ _) (.cells #[.string (rd_T48 l0_2 i).f0, .slice A1 (rd_T48 l0_2 i).f1.length c1, .slice A2 (rd_T48 l0_2 i).f2.length c2, .slice A3 (rd_T48 l0_2 i).f3.length c3, .int .i64 (rd_T48 l0_2 i).f4] 48)))
    have HPl := Aside0.mk (alloc_new wr (.cells #[.string (rd_T48 l0_2 i).f0, .slice A1 (rd_T48 l0_2 i).f1.length c1, .slice A2 (rd_T48 l0_2 i).f2.length c2, .slice A3 (rd_T48 l0_2 i).f3.length c3, .int .i64 (rd_T48 l0_2 i).f4] 48))
    obtain ⟨v0, v1, v2, v3, v4⟩ := trans_facts HPl.out
    by_cases d3 : p1 = 0
    case neg =>
     have d3b : (p1 == 0) = false := beq_eq_false_iff_ne.mpr d3
     have d3c : (p1 != 0) = true := bne_iff_ne.mpr d3
     rw [if_neg d3] at H
     simp only [Option.some.injEq, Prod.mk.injEq] at H
     obtain ⟨rfl, rfl⟩ := H
     clear d3
     go_wp2_with (first | (go_at_call 60; refine (add_calls w _ Bn ns _ _ HK1.out.nv HP.out).mono ?_; rintro e w4 ⟨rfl, hn, ho⟩; have HK2 := Aside0.mk (HK1.out.move hn ho); have HPm := Aside0.mk (ho.2 _ _ _ HPl.out (by decide) (by decide)); obtain ⟨t0, t1, t2, t3, t4⟩ := trans_facts HPm.out; obtain ⟨dr0, dr1, er0, er1⟩ := res_facts HK2.out.br; obtain ⟨dx0, dx1, dx2⟩ := net_facts HK2.out.bx; clear hn ho))
     refine bodyPost_ret (results_cell_row rfl _ _ (w.heap.size + 1) 60 #[.int .i64 p1, .int .i64 (wrap64 ((l0_1.length : Int) + i))] (0, 0) _ rfl (res_put HK2.out.br) Try.underlying60 rfl (by kernel_rfl)) rfl ?_
     exact ⟨rfl, below_set (below_set HK2.out.nv.B (Nat.le_succ _)) (Nat.le_succ _)⟩
    have d3b : (p1 == 0) = true := beq_iff_eq.mpr d3
    rw [if_pos d3] at H
    obtain ⟨e1, he, H⟩ := Option.bind_eq_some_iff.mp H
    have HE := Aside0.mk he
    clear he
    by_cases d4 : e1 = 0
    case neg =>
     have d4b : (e1 == 0) = false := beq_eq_false_iff_ne.mpr d4
     have d4c : (e1 != 0) = true := bne_iff_ne.mpr d4
     rw [if_neg d4] at H
     simp only [Option.some.injEq, Prod.mk.injEq] at H
     obtain ⟨rfl, rfl⟩ := H
     clear d4 d3
     go_wp2_with (first | (go_at_call 60; refine (add_calls w _ Bn ns _ _ HK1.out.nv HP.out).mono ?_; rintro e w4 ⟨rfl, hn, ho⟩; have HK2 := Aside0.mk (HK1.out.move hn ho); have HPm := Aside0.mk (ho.2 _ _ _ HPl.out (by decide) (by decide)); obtain ⟨t0, t1, t2, t3, t4⟩ := trans_facts HPm.out; obtain ⟨dr0, dr1, er0, er1⟩ := res_facts HK2.out.br; obtain ⟨dx0, dx1, dx2⟩ := net_facts HK2.out.bx; clear hn ho) | (go_at_call 62; refine (net_checkTrans.calls k3 _ (fun k_ => k_ < w4.heap.size) A1 c1 _ (fun k_ => k_ < w4.heap.size) A2 c2 _ (fun k_ => k_ < w4.heap.size) A3 c3 _ _ _ _ _ (Kd.V_mk M1.out (Kd.C_F heapArc (Kd.C_below G1.out HK2.out.nv.B))) (Kd.V_mk M2.out (Kd.C_F heapArc (Kd.C_below G2.out HK2.out.nv.B))) (Kd.V_mk M3.out (Kd.C_F heapArc (Kd.C_below G3.out HK2.out.nv.B))) HE.out).mono ?_; rintro e w5 ⟨rfl, hb⟩; have HK3 := Aside0.mk (HK2.out.below hb); obtain ⟨dr0, dr1, er0, er1⟩ := res_facts HK3.out.br; obtain ⟨dx0, dx1, dx2⟩ := net_facts HK3.out.bx; clear hb))
     refine bodyPost_ret (results_cell_row rfl _ _ (w.heap.size + 1) 60 #[.int .i64 e1, .int .i64 (wrap64 ((l0_1.length : Int) + i))] (0, 0) _ rfl (res_put HK3.out.br) Try.underlying60 rfl (by kernel_rfl)) rfl ?_
     exact ⟨rfl, below_set (below_set HK3.out.nv.B (Nat.le_succ _)) (Nat.le_succ _)⟩
    have d4b : (e1 == 0) = true := beq_iff_eq.mpr d4
    have d4c : (e1 != 0) = false := by rw [bne, d4b]; rfl
    rw [if_pos d4] at H
    have HM := Aside0.mk (show (l0_2.length : Int) ≤ 9223372036854775807 by have := HR2.out.2.1; omega)
    rw [show wrap64 (i + 1) = i + 1 by have := HM.out; unfold wrap64; omega] at H
    have H' := Aside0.mk H
    clear H d4 d3
    go_wp2_with (first | (go_at_call 60; refine (add_calls w _ Bn ns _ _ HK1.out.nv HP.out).mono ?_; rintro e w4 ⟨rfl, hn, ho⟩; have HK2 := Aside0.mk (HK1.out.move hn ho); have HPm := Aside0.mk (ho.2 _ _ _ HPl.out (by decide) (by decide)); obtain ⟨t0, t1, t2, t3, t4⟩ := trans_facts HPm.out; obtain ⟨dr0, dr1, er0, er1⟩ := res_facts HK2.out.br; obtain ⟨dx0, dx1, dx2⟩ := net_facts HK2.out.bx; clear hn ho) | (go_at_call 62; refine (net_checkTrans.calls k3 _ (fun k_ => k_ < w4.heap.size) A1 c1 _ (fun k_ => k_ < w4.heap.size) A2 c2 _ (fun k_ => k_ < w4.heap.size) A3 c3 _ _ _ _ _ (Kd.V_mk M1.out (Kd.C_F heapArc (Kd.C_below G1.out HK2.out.nv.B))) (Kd.V_mk M2.out (Kd.C_F heapArc (Kd.C_below G2.out HK2.out.nv.B))) (Kd.V_mk M3.out (Kd.C_F heapArc (Kd.C_below G3.out HK2.out.nv.B))) HE.out).mono ?_; rintro e w5 ⟨rfl, hb⟩; have HK3 := Aside0.mk (HK2.out.below hb); obtain ⟨dr0, dr1, er0, er1⟩ := res_facts HK3.out.br; obtain ⟨dx0, dx1, dx2⟩ := net_facts HK3.out.bx; clear hb))
    go_roundg k3
    case measure => have := HJ2.out; omega
    case rel => exact ⟨_, _, (by congr 1; have := HM.out; (first | omega | (unfold wrap64; omega) | (show wrap64 _ = _; unfold wrap64; omega))), H', ⟨by have := HJ2.out; omega⟩, HK3⟩
  rw [if_pos d1] at H
  have d1b : decide (i < (l0_1.length : Int)) = true := decide_eq_true d1
  by_cases d2 : 0 ≤ i
  case neg => rw [if_neg d2] at H; cases H
  rw [if_pos d2] at H
  obtain ⟨⟨p1, ns1⟩, hp, H⟩ := Option.bind_eq_some_iff.mp H
  have HP := Aside0.mk hp
  clear hp
  obtain ⟨ad, eA, y0, y1, y2⟩ := at_T52 HR1.out i d2 d1
  subst eA
  have u0 := pw_cell_below HK.out.nv.B y0
  have u1 := pw_cell_below HK.out.nv.B y1
  have u2 := pw_cell_below HK.out.nv.B y2
  clear y0 y1 y2
  have q1 : (0 ≤ i) = True := eq_true d2
  have q2 : (i < (l0_1.length : Int)) = True := eq_true d1
  have HK1 := Aside0.mk (HK.out.below (below_alloc (Below.refl _ _) (.cells #[.string (rd_T52 l0_1 i).f0, .int .i64 (rd_T52 l0_1 i).f1, .int .i64 (rd_T52 l0_1 i).f2] 52)))
  have HPl := Aside0.mk (alloc_new wr (.cells #[.string (rd_T52 l0_1 i).f0, .int .i64 (rd_T52 l0_1 i).f1, .int .i64 (rd_T52 l0_1 i).f2] 52))
  obtain ⟨v0, v1, v2⟩ := place_facts HPl.out
  by_cases d3 : p1 = 0
  case neg =>
   have d3b : (p1 == 0) = false := beq_eq_false_iff_ne.mpr d3
   have d3c : (p1 != 0) = true := bne_iff_ne.mpr d3
   rw [if_neg d3] at H
   simp only [Option.some.injEq, Prod.mk.injEq] at H
   obtain ⟨rfl, rfl⟩ := H
   clear d3
   go_wp2_with (first | (go_at_call 60; refine (add_calls w _ Bn ns _ _ HK1.out.nv HP.out).mono ?_; rintro e w4 ⟨rfl, hn, ho⟩; have HK2 := Aside0.mk (HK1.out.move hn ho); have HPm := Aside0.mk (ho.2 _ _ _ HPl.out (by decide) (by decide)); obtain ⟨t0, t1, t2⟩ := place_facts HPm.out; obtain ⟨dr0, dr1, er0, er1⟩ := res_facts HK2.out.br; clear hn ho))
   refine bodyPost_ret (results_cell_row rfl _ _ (w.heap.size + 1) 60 #[.int .i64 p1, .int .i64 i] (0, 0) _ rfl (res_put HK2.out.br) Try.underlying60 rfl (by kernel_rfl)) rfl ?_
   exact ⟨rfl, below_set (below_set HK2.out.nv.B (Nat.le_succ _)) (Nat.le_succ _)⟩
  have d3b : (p1 == 0) = true := beq_iff_eq.mpr d3
  rw [if_pos d3] at H
  obtain ⟨e1, he, H⟩ := Option.bind_eq_some_iff.mp H
  have HE := Aside0.mk he
  clear he
  by_cases d4 : e1 = 0
  case neg =>
   have d4b : (e1 == 0) = false := beq_eq_false_iff_ne.mpr d4
   have d4c : (e1 != 0) = true := bne_iff_ne.mpr d4
   rw [if_neg d4] at H
   simp only [Option.some.injEq, Prod.mk.injEq] at H
   obtain ⟨rfl, rfl⟩ := H
   clear d4 d3
   go_wp2_with (first | (go_at_call 60; refine (add_calls w _ Bn ns _ _ HK1.out.nv HP.out).mono ?_; rintro e w4 ⟨rfl, hn, ho⟩; have HK2 := Aside0.mk (HK1.out.move hn ho); have HPm := Aside0.mk (ho.2 _ _ _ HPl.out (by decide) (by decide)); obtain ⟨t0, t1, t2⟩ := place_facts HPm.out; obtain ⟨dr0, dr1, er0, er1⟩ := res_facts HK2.out.br; clear hn ho) | (go_at_call 61; refine (net_checkPlace.calls _ _ _ _ _ HE.out).mono ?_; rintro e w5 ⟨rfl, hb⟩; have HK3 := Aside0.mk (HK2.out.below hb); obtain ⟨dr0, dr1, er0, er1⟩ := res_facts HK3.out.br; clear hb))
   refine bodyPost_ret (results_cell_row rfl _ _ (w.heap.size + 1) 60 #[.int .i64 e1, .int .i64 i] (0, 0) _ rfl (res_put HK3.out.br) Try.underlying60 rfl (by kernel_rfl)) rfl ?_
   exact ⟨rfl, below_set (below_set HK3.out.nv.B (Nat.le_succ _)) (Nat.le_succ _)⟩
  have d4b : (e1 == 0) = true := beq_iff_eq.mpr d4
  have d4c : (e1 != 0) = false := by rw [bne, d4b]; rfl
  rw [if_pos d4] at H
  have HM := Aside0.mk (show (l0_1.length : Int) ≤ 9223372036854775807 by have := HR1.out.2.1; omega)
  rw [show wrap64 (i + 1) = i + 1 by have := HM.out; unfold wrap64; omega] at H
  have H' := Aside0.mk H
  clear H d4 d3
  go_wp2_with (first | (go_at_call 60; refine (add_calls w _ Bn ns _ _ HK1.out.nv HP.out).mono ?_; rintro e w4 ⟨rfl, hn, ho⟩; have HK2 := Aside0.mk (HK1.out.move hn ho); have HPm := Aside0.mk (ho.2 _ _ _ HPl.out (by decide) (by decide)); obtain ⟨t0, t1, t2⟩ := place_facts HPm.out; obtain ⟨dr0, dr1, er0, er1⟩ := res_facts HK2.out.br; clear hn ho) | (go_at_call 61; refine (net_checkPlace.calls _ _ _ _ _ HE.out).mono ?_; rintro e w5 ⟨rfl, hb⟩; have HK3 := Aside0.mk (HK2.out.below hb); obtain ⟨dr0, dr1, er0, er1⟩ := res_facts HK3.out.br; clear hb))
  go_roundg k1
  case measure => have := HJ.out; omega
  case rel => exact ⟨_, _, (by congr 1; have := HM.out; (first | omega | (unfold wrap64; omega) | (show wrap64 _ = _; unfold wrap64; omega))), H', ⟨by have := HJ.out; omega⟩, HK3⟩

/-! ### net_valid: function 52 -/
def net_valid.f (k : Nat) (a0_0 : ByteArray) (l0_1 : List (S52)) (l0_2 : List (S48)) : Option (Bool) := (net_Check.f k a0_0 l0_1 l0_2).bind fun bt117 => (some (bt117.1 == 0))
theorem net_valid.mono : ∀ a0 a1 a2 k, LeO (net_valid.f k a0 a1 a2) (net_valid.f (k + 1) a0 a1 a2) := by
 intro a0 a1 a2 k
 unfold net_valid.f
 repeat' first | (with_reducible first | apply net_Check.mono | apply lr | apply ln | apply li | refine lb ?_ fun _ => ?_)
set_option maxHeartbeats 8000000 in
set_option maxRecDepth 100000 in
theorem net_valid.calls (k : Nat) (a0_0 : ByteArray) (A0_1 : Option Addr) (c0_1 : Nat) (l0_1 : List (S52)) (A0_2 : Option Addr) (c0_2 : Nat) (l0_2 : List (S48)) (r : Bool) (w : World) (hr0_1 : Kd.C k52 w A0_1 l0_1.length l0_1) (hc0_1 : l0_1.length ≤ c0_1) (hr0_2 : Kd.C k48 w A0_2 l0_2.length l0_2) (hc0_2 : l0_2.length ≤ c0_2) (h : net_valid.f k a0_0 l0_1 l0_2 = some r) :
  Calls Try.prog 52 #[.agg #[.string a0_0, .slice A0_1 l0_1.length c0_1, .slice A0_2 l0_2.length c0_2]] w fun e w' => e = .returned (.bool r) ∧ Below w.heap.size w w' := by
 have hf60_0 : ∀ (x0 x1 : Value) (W : World), (Instr.field 60 (.agg #[x0, x1]) 0).run Try.prog W = .ok x0 W := fun x0 x1 W => by kernel_rfl
 have hu25 := Try.underlying25
 have HR0_1 := am hr0_1
 have HC0_1 := am hc0_1
 clear hr0_1 hc0_1
 have HR0_2 := am hr0_2
 have HC0_2 := am hc0_2
 clear hr0_2 hc0_2
 have HB := am (Below.refl w.heap.size w)
 have H : ((net_Check.f k a0_0 l0_1 l0_2).bind fun bt117 => (some (bt117.1 == 0))) = some r := h
 clear h
 replace H := bnd H
 obtain ⟨⟨t117, t118⟩, A2, H⟩ := H
 (try dsimp only at H)
 obtain rfl := Option.some.inj H
 go_enter Try.func52, Try.ntmps52
 go_wp2_with (first | ((with_reducible refine gate_dst (N := 1) rfl ?_); refine box_ev (N := 1) (cs := #[.string a0_0, .slice A0_1 l0_1.length c0_1, .slice A0_2 l0_2.length c0_2]) (t := 25) ?_; intro gb116 hg w3 hbox hb; have BK116 := am hbox; have GW116 := gwl hg; have GE116 := GW116; replace HB := bsl hb; clear hb hbox hg; obtain ⟨z4_0, z4_1, z4_2, y4_0, y4_1, y4_2⟩ := cf3 BK116.1) | ((with_reducible refine gate_callee (f := 37) rfl ?_); refine gC 4 Try.func37 _ (net_Check.calls k a0_0 _ _ l0_1 _ _ l0_2 t117 t118 _ (csb HR0_1 HB) HC0_1.1 (csb HR0_2 HB) HC0_2.1 A2.1) ?_; rintro e w5 ⟨rfl, hb⟩; refine ⟨_, rfl, ?_⟩; replace BK116 := bbh BK116 hb; replace HB := bst hb; (try clear hb)))
 go_ret
 exact ⟨per, pbg⟩

/-! ### net_Plain: function 38 -/
mutual
def net_Plain.l0 : Nat → List (S48) → Int → Int → ByteArray → List (S52) → List (S48) → Option (Bool)
 | 0, _, _, _, _, _, _ => none
 | k + 1, x8, x9, x10, x140000, x140001, x140002 => if x10 < x9 then (if 0 ≤ x10 then (if x10 < (x8.length : Int) then (if (((rd_T48 x8 x10).f3).length : Int) > 0 then (some false) else (if ((rd_T48 x8 x10).f4) = 0 then (net_Plain.l0 k x8 x9 (wrap64 (x10 + 1)) x140000 x140001 x140002) else (some false))) else (none)) else (none)) else (net_Plain.l1 k x140001 (x140001.length : Int) 0 x140000 x140001 x140002)
def net_Plain.l1 : Nat → List (S52) → Int → Int → ByteArray → List (S52) → List (S48) → Option (Bool)
 | 0, _, _, _, _, _, _ => none
 | k + 1, x25, x26, x27, x140000, x140001, x140002 => if x27 < x26 then (if 0 ≤ x27 then (if x27 < (x25.length : Int) then (if ((rd_T52 x25 x27).f2) = 0 then (net_Plain.l1 k x25 x26 (wrap64 (x27 + 1)) x140000 x140001 x140002) else (some false)) else (none)) else (none)) else ((net_valid.f k x140000 x140001 x140002).bind fun t144 => (some t144))
end
def net_Plain.f (k : Nat) (a0_0 : ByteArray) (l0_1 : List (S52)) (l0_2 : List (S48)) : Option (Bool) := net_Plain.l0 k l0_2 (l0_2.length : Int) 0 a0_0 l0_1 l0_2
theorem net_Plain.mono_l : ∀ k, M6 net_Plain.l0 k ∧ M6 net_Plain.l1 k
 | 0 => ⟨fun _ _ _ _ _ _ r h => by simp [net_Plain.l0] at h, fun _ _ _ _ _ _ r h => by simp [net_Plain.l1] at h⟩
 | k + 1 => by
  obtain ⟨ih0, ih1⟩ := net_Plain.mono_l k
  refine ⟨?_, ?_⟩ <;> dsimp only [M6] <;> intros <;> (first | unfold net_Plain.l0 | unfold net_Plain.l1) <;> repeat' first | (with_reducible first | apply ih0 | apply ih1 | apply net_valid.mono | apply lr | apply ln | apply li | refine lb ?_ fun _ => ?_)
theorem net_Plain.mono : ∀ a0 a1 a2 k, LeO (net_Plain.f k a0 a1 a2) (net_Plain.f (k + 1) a0 a1 a2) := by
 intro a0 a1 a2 k
 obtain ⟨ih0, ih1⟩ := net_Plain.mono_l k
 unfold net_Plain.f
 repeat' first | (with_reducible first | apply ih0 | apply ih1 | apply net_valid.mono | apply lr | apply ln | apply li | refine lb ?_ fun _ => ?_)
set_option maxHeartbeats 8000000 in
set_option maxRecDepth 100000 in
theorem net_Plain.calls (k : Nat) (a0_0 : ByteArray) (A0_1 : Option Addr) (c0_1 : Nat) (l0_1 : List (S52)) (A0_2 : Option Addr) (c0_2 : Nat) (l0_2 : List (S48)) (r : Bool) (w : World) (hr0_1 : Kd.C k52 w A0_1 l0_1.length l0_1) (hc0_1 : l0_1.length ≤ c0_1) (hr0_2 : Kd.C k48 w A0_2 l0_2.length l0_2) (hc0_2 : l0_2.length ≤ c0_2) (h : net_Plain.f k a0_0 l0_1 l0_2 = some r) :
  Calls Try.prog 38 #[.agg #[.string a0_0, .slice A0_1 l0_1.length c0_1, .slice A0_2 l0_2.length c0_2]] w fun e w' => e = .returned (.bool r) ∧ Below w.heap.size w w' := by
 have hu25 := Try.underlying25
 have hu48 := Try.underlying48
 have hu52 := Try.underlying52
 have HR0_1 := am hr0_1
 have HC0_1 := am hc0_1
 clear hr0_1 hc0_1
 have HR0_2 := am hr0_2
 have HC0_2 := am hc0_2
 clear hr0_2 hc0_2
 have HB := am (Below.refl w.heap.size w)
 have H : (net_Plain.l0 k l0_2 (l0_2.length : Int) 0 a0_0 l0_1 l0_2) = some r := h
 clear h
 have H' := am H
 clear H
 go_enter Try.func38, Try.ntmps38
 go_wp2_with (first | ((with_reducible refine gate_dst (N := 1) rfl ?_); refine box_ev (N := 1) (cs := #[.string a0_0, .slice A0_1 l0_1.length c0_1, .slice A0_2 l0_2.length c0_2]) (t := 25) ?_; intro gb139 hg w2 hbox hb; have BK139 := am hbox; have GW139 := gwl hg; have GE139 := GW139; replace HB := bsl hb; clear hb hbox hg; obtain ⟨z3_0, z3_1, z3_2, y3_0, y3_1, y3_2⟩ := cf3 BK139.1))
 go_loopg [10] k (fun kq v10 w' => ∃ (x10_1 : Int), v10 = .int .i64 x10_1 ∧ Aside0 (net_Plain.l0 kq l0_2 (l0_2.length : Int) x10_1 a0_0 l0_1 l0_2 = some r) ∧ Aside0 (kq ≤ k) ∧ Aside0 (w'.heap[gb139]? = some (.cells #[.string a0_0, (.slice A0_1 l0_1.length c0_1), (.slice A0_2 l0_2.length c0_2)] 25 (0, 0))) ∧ Aside0 (Below w.heap.size w w'))
 case atStart => exact ⟨(0), prs, H', ⟨Nat.le_refl _⟩, ⟨pbk BK139.1⟩, ⟨pbg⟩⟩
 clear H'
 try clear z3_0 z3_1 z3_2 y3_0 y3_1 y3_2
 obtain ⟨x10_1, rfl, HA, HK1, BK139, HB⟩ := hrel
 obtain _ | k1 := gk
 ·exact absurd HA.1 (by simp [net_Plain.l0])
 have H := HA.1
 clear HA
 simp only [net_Plain.l0] at H
 by_cases c4 : x10_1 < (l0_2.length : Int)
 rotate_left
 ·rw [if_neg c4] at H
  have c4b0 : decide (x10_1 < (l0_2.length : Int)) = false := decide_eq_false c4
  clear c4
  have H' := am H
  clear H
  obtain ⟨z18_0, z18_1, z18_2, y18_0, y18_1, y18_2⟩ := cf3 BK139.1
  go_wp2
  go_loopg [27] k1 (fun kq v27 w' => ∃ (x27_2 : Int), v27 = .int .i64 x27_2 ∧ Aside0 (net_Plain.l1 kq l0_1 (l0_1.length : Int) x27_2 a0_0 l0_1 l0_2 = some r) ∧ Aside0 (kq ≤ k1) ∧ Aside0 (w'.heap[gb139]? = some (.cells #[.string a0_0, (.slice A0_1 l0_1.length c0_1), (.slice A0_2 l0_2.length c0_2)] 25 (0, 0))) ∧ Aside0 (Below w.heap.size w w'))
  case atStart => exact ⟨(0), prs, H', ⟨Nat.le_refl _⟩, ⟨pbk BK139.1⟩, ⟨pbg⟩⟩
  clear H'
  try clear c4 c4b0 c5 c5b0 c6 c6b0 c7 c7b0 c7b1 c11 c11b0 c11b1 z10_0 z10_1 z10_2 z10_3 z10_4 z14_0 z14_1 z14_2 z14_3 z14_4 z17_0 z17_1 z17_2 z17_3 z17_4 z18_0 z18_1 z18_2 z3_0 z3_1 z3_2 y10_0 y10_1 y10_2 y10_3 y10_4 y14_0 y14_1 y14_2 y14_3 y14_4 y17_0 y17_1 y17_2 y17_3 y17_4 y18_0 y18_1 y18_2 y3_0 y3_1 y3_2 hx140_0 hx140_1 hx140_2 hx140_3 hx140_4 p140 q140
  obtain ⟨x27_2, rfl, HA, HK2, BK139, HB⟩ := hrel
  obtain _ | k2 := gk
  ·exact absurd HA.1 (by simp [net_Plain.l1])
  have H := HA.1
  clear HA
  simp only [net_Plain.l1] at H
  by_cases c19 : x27_2 < (l0_1.length : Int)
  rotate_left
  ·rw [if_neg c19] at H
   have c19b0 : decide (x27_2 < (l0_1.length : Int)) = false := decide_eq_false c19
   clear c19
   replace H := bnd H
   obtain ⟨t144, A29, H⟩ := H
   (try dsimp only at H)
   obtain rfl := Option.some.inj H
   obtain ⟨z30_0, z30_1, z30_2, y30_0, y30_1, y30_2⟩ := cf3 BK139.1
   go_wp2_with (first | ((with_reducible refine gate_callee (f := 52) rfl ?_); refine gC 36 Try.func52 _ (net_valid.calls k2 a0_0 _ _ l0_1 _ _ l0_2 t144 _ (csb HR0_1 HB) HC0_1.1 (csb HR0_2 HB) HC0_2.1 A29.1) ?_; rintro e w31 ⟨rfl, hb⟩; refine ⟨_, rfl, ?_⟩; replace BK139 := bbh BK139 hb; replace HB := bst hb; (try clear hb)))
   go_ret
   exact ⟨per, pbg⟩
  rw [if_pos c19] at H
  have c19b0 : decide (x27_2 < (l0_1.length : Int)) = true := decide_eq_true c19
  clear c19
  replace H := ifp H
  obtain ⟨c20, H⟩ := H
  have c20b0 := decide_eq_true c20
  clear c20
  replace H := ifp H
  obtain ⟨c21, H⟩ := H
  have c21b0 := decide_eq_true c21
  clear c21
  by_cases c22 : ((rd_T52 l0_1 x27_2).f2) = 0
  rotate_left
  ·rw [if_neg c22] at H
   have c22b0 : (((rd_T52 l0_1 x27_2).f2) == 0) = false := beq_eq_false_iff_ne.mpr c22
   have c22b1 : (((rd_T52 l0_1 x27_2).f2) != 0) = true := bne_iff_ne.mpr c22
   obtain rfl := Option.some.inj H
   obtain ⟨p142, q142, ad142, e142, hx142_0, hx142_1, hx142_2⟩ := bT52 HR0_1.1 HB.1 x27_2
   cases e142
   go_wp2_with (first | ((with_reducible refine gate_dst (N := 6) rfl ?_); refine box_ev (N := 6) (cs := #[.string (⟨#[]⟩ : ByteArray), .int .i64 0, .int .i64 0]) (t := 52) ?_; intro gb143 hg w26 hbox hb; have BK143 := am hbox; have GW143 := gwb hg; have GE143 := GW143; have NB139_143 := nlt hg BK139; have NB143_139 := ngt hg BK139; replace BK139 := bbh BK139 hb; replace HB := bst hb; clear hb hbox hg; have hnb27 := NB143_139.1; have hnc27 := NB139_143.1; obtain ⟨z28_0, z28_1, z28_2, y28_0, y28_1, y28_2⟩ := cf3 BK143.1))
   go_ret
   exact ⟨per, pbg⟩
  rw [if_pos c22] at H
  have c22b0 : (((rd_T52 l0_1 x27_2).f2) == 0) = true := beq_iff_eq.mpr c22
  have c22b1 : (((rd_T52 l0_1 x27_2).f2) != 0) = false := bne_eq_false_iff_eq.mpr c22
  clear c22
  have H' := am H
  clear H
  obtain ⟨p142, q142, ad142, e142, hx142_0, hx142_1, hx142_2⟩ := bT52 HR0_1.1 HB.1 x27_2
  cases e142
  go_wp2_with (first | ((with_reducible refine gate_dst (N := 6) rfl ?_); refine box_ev (N := 6) (cs := #[.string (⟨#[]⟩ : ByteArray), .int .i64 0, .int .i64 0]) (t := 52) ?_; intro gb143 hg w23 hbox hb; have BK143 := am hbox; have GW143 := gwb hg; have GE143 := GW143; have NB139_143 := nlt hg BK139; have NB143_139 := ngt hg BK139; replace BK139 := bbh BK139 hb; replace HB := bst hb; clear hb hbox hg; have hnb24 := NB143_139.1; have hnc24 := NB139_143.1; obtain ⟨z25_0, z25_1, z25_2, y25_0, y25_1, y25_2⟩ := cf3 BK143.1))
  go_roundg k2
  case measure => have := HK1.1; have := HK2.1; omega
  case rel => exact ⟨(wrap64 (x27_2 + 1)), prs, H', ⟨by have := HK1.1; have := HK2.1; omega⟩, ⟨by (with_reducible repeat (first | refine blk_drewN ?_ _ | refine blk_drew ?_ | refine blk_alloc ?_ _)); refine bf3 ?_ NB139_143.1; exact pbk BK139.1⟩, ⟨pbg⟩⟩
 rw [if_pos c4] at H
 have c4b0 : decide (x10_1 < (l0_2.length : Int)) = true := decide_eq_true c4
 clear c4
 replace H := ifp H
 obtain ⟨c5, H⟩ := H
 have c5b0 := decide_eq_true c5
 clear c5
 replace H := ifp H
 obtain ⟨c6, H⟩ := H
 have c6b0 := decide_eq_true c6
 clear c6
 by_cases c7 : (((rd_T48 l0_2 x10_1).f3).length : Int) > 0
 ·rw [if_pos c7] at H
  have c7b0 : decide (0 < (((rd_T48 l0_2 x10_1).f3).length : Int)) = true := decide_eq_true c7
  have c7b1 : decide (0 < ((rd_T48 l0_2 x10_1).f3).length) = true := decide_eq_true (by omega)
  clear c7
  obtain rfl := Option.some.inj H
  obtain ⟨p140, q140, ad140, A140_1, c140_1, A140_2, c140_2, A140_3, c140_3, e140, hx140_0, hx140_1, hx140_2, hx140_3, hx140_4, HC140_1, HR140_1, HC140_2, HR140_2, HC140_3, HR140_3⟩ := bT48 HR0_2.1 HB.1 x10_1
  cases e140
  go_wp2_with (first | ((with_reducible refine gate_dst (N := 4) rfl ?_); refine box_ev (N := 4) (cs := #[.string (⟨#[]⟩ : ByteArray), .slice none 0 0, .slice none 0 0, .slice none 0 0, .int .i64 0]) (t := 48) ?_; intro gb141 hg w8 hbox hb; have BK141 := am hbox; have GW141 := gwb hg; have GE141 := GW141; have NB139_141 := nlt hg BK139; have NB141_139 := ngt hg BK139; replace BK139 := bbh BK139 hb; replace HB := bst hb; clear hb hbox hg; have hnb9 := NB141_139.1; have hnc9 := NB139_141.1; obtain ⟨z10_0, z10_1, z10_2, z10_3, z10_4, y10_0, y10_1, y10_2, y10_3, y10_4⟩ := cf5 BK141.1))
  go_ret
  exact ⟨per, pbg⟩
 rw [if_neg c7] at H
 have c7b0 : decide (0 < (((rd_T48 l0_2 x10_1).f3).length : Int)) = false := decide_eq_false c7
 have c7b1 : decide (0 < ((rd_T48 l0_2 x10_1).f3).length) = false := decide_eq_false (by omega)
 clear c7
 by_cases c11 : ((rd_T48 l0_2 x10_1).f4) = 0
 rotate_left
 ·rw [if_neg c11] at H
  have c11b0 : (((rd_T48 l0_2 x10_1).f4) == 0) = false := beq_eq_false_iff_ne.mpr c11
  have c11b1 : (((rd_T48 l0_2 x10_1).f4) != 0) = true := bne_iff_ne.mpr c11
  obtain rfl := Option.some.inj H
  obtain ⟨p140, q140, ad140, A140_1, c140_1, A140_2, c140_2, A140_3, c140_3, e140, hx140_0, hx140_1, hx140_2, hx140_3, hx140_4, HC140_1, HR140_1, HC140_2, HR140_2, HC140_3, HR140_3⟩ := bT48 HR0_2.1 HB.1 x10_1
  cases e140
  go_wp2_with (first | ((with_reducible refine gate_dst (N := 4) rfl ?_); refine box_ev (N := 4) (cs := #[.string (⟨#[]⟩ : ByteArray), .slice none 0 0, .slice none 0 0, .slice none 0 0, .int .i64 0]) (t := 48) ?_; intro gb141 hg w15 hbox hb; have BK141 := am hbox; have GW141 := gwb hg; have GE141 := GW141; have NB139_141 := nlt hg BK139; have NB141_139 := ngt hg BK139; replace BK139 := bbh BK139 hb; replace HB := bst hb; clear hb hbox hg; have hnb16 := NB141_139.1; have hnc16 := NB139_141.1; obtain ⟨z17_0, z17_1, z17_2, z17_3, z17_4, y17_0, y17_1, y17_2, y17_3, y17_4⟩ := cf5 BK141.1))
  go_ret
  exact ⟨per, pbg⟩
 rw [if_pos c11] at H
 have c11b0 : (((rd_T48 l0_2 x10_1).f4) == 0) = true := beq_iff_eq.mpr c11
 have c11b1 : (((rd_T48 l0_2 x10_1).f4) != 0) = false := bne_eq_false_iff_eq.mpr c11
 clear c11
 have H' := am H
 clear H
 obtain ⟨p140, q140, ad140, A140_1, c140_1, A140_2, c140_2, A140_3, c140_3, e140, hx140_0, hx140_1, hx140_2, hx140_3, hx140_4, HC140_1, HR140_1, HC140_2, HR140_2, HC140_3, HR140_3⟩ := bT48 HR0_2.1 HB.1 x10_1
 cases e140
 go_wp2_with (first | ((with_reducible refine gate_dst (N := 4) rfl ?_); refine box_ev (N := 4) (cs := #[.string (⟨#[]⟩ : ByteArray), .slice none 0 0, .slice none 0 0, .slice none 0 0, .int .i64 0]) (t := 48) ?_; intro gb141 hg w12 hbox hb; have BK141 := am hbox; have GW141 := gwb hg; have GE141 := GW141; have NB139_141 := nlt hg BK139; have NB141_139 := ngt hg BK139; replace BK139 := bbh BK139 hb; replace HB := bst hb; clear hb hbox hg; have hnb13 := NB141_139.1; have hnc13 := NB139_141.1; obtain ⟨z14_0, z14_1, z14_2, z14_3, z14_4, y14_0, y14_1, y14_2, y14_3, y14_4⟩ := cf5 BK141.1))
 go_roundg k1
 case measure => have := HK1.1; omega
 case rel => exact ⟨(wrap64 (x10_1 + 1)), prs, H', ⟨by have := HK1.1; omega⟩, ⟨by (with_reducible repeat (first | refine blk_drewN ?_ _ | refine blk_drew ?_ | refine blk_alloc ?_ _)); refine bf5 ?_ NB139_141.1; exact pbk BK139.1⟩, ⟨pbg⟩⟩

/-! ### netclass_valid: function 53 -/
def netclass_valid.f (k : Nat) (a0_0 : ByteArray) (l0_1 : List (S52)) (l0_2 : List (S48)) : Option (Bool) := (net_Check.f k a0_0 l0_1 l0_2).bind fun bt146 => (some (bt146.1 == 0))
theorem netclass_valid.mono : ∀ a0 a1 a2 k, LeO (netclass_valid.f k a0 a1 a2) (netclass_valid.f (k + 1) a0 a1 a2) := by
 intro a0 a1 a2 k
 unfold netclass_valid.f
 repeat' first | (with_reducible first | apply net_Check.mono | apply lr | apply ln | apply li | refine lb ?_ fun _ => ?_)
set_option maxHeartbeats 8000000 in
set_option maxRecDepth 100000 in
theorem netclass_valid.calls (k : Nat) (a0_0 : ByteArray) (A0_1 : Option Addr) (c0_1 : Nat) (l0_1 : List (S52)) (A0_2 : Option Addr) (c0_2 : Nat) (l0_2 : List (S48)) (r : Bool) (w : World) (hr0_1 : Kd.C k52 w A0_1 l0_1.length l0_1) (hc0_1 : l0_1.length ≤ c0_1) (hr0_2 : Kd.C k48 w A0_2 l0_2.length l0_2) (hc0_2 : l0_2.length ≤ c0_2) (h : netclass_valid.f k a0_0 l0_1 l0_2 = some r) :
  Calls Try.prog 53 #[.agg #[.string a0_0, .slice A0_1 l0_1.length c0_1, .slice A0_2 l0_2.length c0_2]] w fun e w' => e = .returned (.bool r) ∧ Below w.heap.size w w' := by
 have hf60_0 : ∀ (x0 x1 : Value) (W : World), (Instr.field 60 (.agg #[x0, x1]) 0).run Try.prog W = .ok x0 W := fun x0 x1 W => by kernel_rfl
 have hu25 := Try.underlying25
 have HR0_1 := am hr0_1
 have HC0_1 := am hc0_1
 clear hr0_1 hc0_1
 have HR0_2 := am hr0_2
 have HC0_2 := am hc0_2
 clear hr0_2 hc0_2
 have HB := am (Below.refl w.heap.size w)
 have H : ((net_Check.f k a0_0 l0_1 l0_2).bind fun bt146 => (some (bt146.1 == 0))) = some r := h
 clear h
 replace H := bnd H
 obtain ⟨⟨t146, t147⟩, A2, H⟩ := H
 (try dsimp only at H)
 obtain rfl := Option.some.inj H
 go_enter Try.func53, Try.ntmps53
 go_wp2_with (first | ((with_reducible refine gate_dst (N := 1) rfl ?_); refine box_ev (N := 1) (cs := #[.string a0_0, .slice A0_1 l0_1.length c0_1, .slice A0_2 l0_2.length c0_2]) (t := 25) ?_; intro gb145 hg w3 hbox hb; have BK145 := am hbox; have GW145 := gwl hg; have GE145 := GW145; replace HB := bsl hb; clear hb hbox hg; obtain ⟨z4_0, z4_1, z4_2, y4_0, y4_1, y4_2⟩ := cf3 BK145.1) | ((with_reducible refine gate_callee (f := 37) rfl ?_); refine gC 4 Try.func37 _ (net_Check.calls k a0_0 _ _ l0_1 _ _ l0_2 t146 t147 _ (csb HR0_1 HB) HC0_1.1 (csb HR0_2 HB) HC0_2.1 A2.1) ?_; rintro e w5 ⟨rfl, hb⟩; refine ⟨_, rfl, ?_⟩; replace BK145 := bbh BK145 hb; replace HB := bst hb; (try clear hb)))
 go_ret
 exact ⟨per, pbg⟩

/-! ### netclass_Flow: function 55 -/
mutual
def netclass_Flow.l0 : Nat → Int → List (List Int) → List (S48) → Int → Int → Option ((List (List Int)))
 | 0, _, _, _, _, _ => none
 | k + 1, x3, x4, x24, x25, x26 => if x26 < x25 then (if 0 ≤ x26 then (if x26 < (x24.length : Int) then (netclass_Flow.l1 k x3 x4 x26 x24 x25 x26 ((rd_T48 x24 x26).f1) (((rd_T48 x24 x26).f1).length : Int) 0 ((rd_T48 x24 x26).f0) ((rd_T48 x24 x26).f1) ((rd_T48 x24 x26).f2) ((rd_T48 x24 x26).f3) ((rd_T48 x24 x26).f4)) else (none)) else (none)) else (some x4)
def netclass_Flow.l1 : Nat → Int → List (List Int) → Int → List (S48) → Int → Int → List (S55) → Int → Int → ByteArray → List (S55) → List (S55) → List (S55) → Int → Option ((List (List Int)))
 | 0, _, _, _, _, _, _, _, _, _, _, _, _, _, _ => none
 | k + 1, x3, x4, x5, x24, x25, x26, x32, x33, x34, x155000, x155001, x155002, x155003, x155004 => if x34 < x33 then (if 0 ≤ x34 then (if x34 < (x32.length : Int) then (if 0 ≤ ((rd_T55 x32 x34).f0) then (if ((rd_T55 x32 x34).f0) < (x4.length : Int) then (if (rd_L11 x4 ((rd_T55 x32 x34).f0)).length < 17592186044416 then (netclass_Flow.l1 k x3 (x4.set (((rd_T55 x32 x34).f0) : Int).toNat ((rd_L11 x4 ((rd_T55 x32 x34).f0)) ++ [wrap64 (x3 + x5)])) x5 x24 x25 x26 x32 x33 (wrap64 (x34 + 1)) x155000 x155001 x155002 x155003 x155004) else (none)) else (none)) else (none)) else (none)) else (none)) else (netclass_Flow.l2 k x3 x4 x5 x24 x25 x26 x155002 (x155002.length : Int) 0)
def netclass_Flow.l2 : Nat → Int → List (List Int) → Int → List (S48) → Int → Int → List (S55) → Int → Int → Option ((List (List Int)))
 | 0, _, _, _, _, _, _, _, _, _ => none
 | k + 1, x3, x4, x5, x24, x25, x26, x54, x55, x56 => if x56 < x55 then (if 0 ≤ x56 then (if x56 < (x54.length : Int) then (if 0 ≤ (wrap64 (x3 + x5)) then (if (wrap64 (x3 + x5)) < (x4.length : Int) then (if (rd_L11 x4 (wrap64 (x3 + x5))).length < 17592186044416 then (netclass_Flow.l2 k x3 (x4.set ((wrap64 (x3 + x5)) : Int).toNat ((rd_L11 x4 (wrap64 (x3 + x5))) ++ [(rd_T55 x54 x56).f0])) x5 x24 x25 x26 x54 x55 (wrap64 (x56 + 1))) else (none)) else (none)) else (none)) else (none)) else (none)) else (netclass_Flow.l0 k x3 x4 x24 x25 (wrap64 (x26 + 1)))
end
def netclass_Flow.f (k : Nat) (a0_0 : ByteArray) (l0_1 : List (S52)) (l0_2 : List (S48)) : Option ((List (List Int))) := (netclass_valid.f k a0_0 l0_1 l0_2).bind fun t149 => (if t149 = true then (if 0 ≤ (wrap64 ((l0_1.length : Int) + (l0_2.length : Int))) then (if (wrap64 ((l0_1.length : Int) + (l0_2.length : Int)) : Int).toNat ≤ 11728124029610 then (netclass_Flow.l0 k (l0_1.length : Int) (List.replicate (wrap64 ((l0_1.length : Int) + (l0_2.length : Int)) : Int).toNat []) l0_2 (l0_2.length : Int) 0) else (none)) else (none)) else (some ([] : List (List Int))))
theorem netclass_Flow.mono_l : ∀ k, M5 netclass_Flow.l0 k ∧ M14 netclass_Flow.l1 k ∧ M9 netclass_Flow.l2 k
 | 0 => ⟨fun _ _ _ _ _ r h => by simp [netclass_Flow.l0] at h, fun _ _ _ _ _ _ _ _ _ _ _ _ _ _ r h => by simp [netclass_Flow.l1] at h, fun _ _ _ _ _ _ _ _ _ r h => by simp [netclass_Flow.l2] at h⟩
 | k + 1 => by
  obtain ⟨ih0, ih1, ih2⟩ := netclass_Flow.mono_l k
  refine ⟨?_, ?_, ?_⟩ <;> dsimp only [M5, M9, M14] <;> intros <;> (first | unfold netclass_Flow.l0 | unfold netclass_Flow.l1 | unfold netclass_Flow.l2) <;> repeat' first | (with_reducible first | apply ih0 | apply ih1 | apply ih2 | apply netclass_valid.mono | apply lr | apply ln | apply li | refine lb ?_ fun _ => ?_)
theorem netclass_Flow.mono : ∀ a0 a1 a2 k, LeO (netclass_Flow.f k a0 a1 a2) (netclass_Flow.f (k + 1) a0 a1 a2) := by
 intro a0 a1 a2 k
 obtain ⟨ih0, ih1, ih2⟩ := netclass_Flow.mono_l k
 unfold netclass_Flow.f
 repeat' first | (with_reducible first | apply ih0 | apply ih1 | apply ih2 | apply netclass_valid.mono | apply lr | apply ln | apply li | refine lb ?_ fun _ => ?_)
def netclass_Flow.T11 : Bool × List (List Nat × List Nat) := (true, [([], []), ([], []), ([1], [1]), ([], []), ([], []), ([4], [4]), ([3, 5], [3, 5]), ([6], [6]), ([], []), ([], []), ([8, 9], [8, 9]), ([10], [10]), ([7, 11], [7, 11]), ([0, 2, 0, 1, 2, 3, 4, 5, 6, 7, 8, 9, 10, 11, 12], [0, 2]), ([13, 12, 12, 0, 1, 2, 3, 4, 5, 6, 7, 8, 9, 10, 11, 12], [12, 13])])
def netclass_Flow.B11 : List Nat := [0, 0, 2, 0, 0, 16, 56, 120, 0, 0, 768, 1792, 4088, 8191, 16383]
theorem netclass_Flow.tab11 : rtab .any (opsOf Try.f55 11) = netclass_Flow.T11 := by kernel_rfl
theorem netclass_Flow.bits11 : waitsOk netclass_Flow.T11.2 netclass_Flow.B11 = true := by kernel_rfl
def netclass_Flow.T16 : Bool × List (List Nat × List Nat) := (true, [([], []), ([], []), ([], []), ([1, 2], [1, 2]), ([], []), ([], []), ([], []), ([5, 6], [5, 6]), ([4, 7], [4, 7]), ([8], [8]), ([], []), ([10], [10]), ([11], [11]), ([9, 12], [9, 12]), ([0, 3, 0, 1, 2, 3, 4, 5, 6, 7, 8, 9, 10, 11, 12, 13], [0, 3]), ([14, 13, 13, 0, 1, 2, 3, 4, 5, 6, 7, 8, 9, 10, 11, 12, 13], [13, 14])])
def netclass_Flow.B16 : List Nat := [0, 0, 0, 6, 0, 0, 0, 96, 240, 496, 0, 1024, 3072, 8176, 16383, 32767]
theorem netclass_Flow.tab16 : rtab .any (opsOf Try.f55 16) = netclass_Flow.T16 := by kernel_rfl
theorem netclass_Flow.bits16 : waitsOk netclass_Flow.T16.2 netclass_Flow.B16 = true := by kernel_rfl
set_option maxHeartbeats 8000000 in
set_option maxRecDepth 100000 in
theorem netclass_Flow.calls (k : Nat) (a0_0 : ByteArray) (A0_1 : Option Addr) (c0_1 : Nat) (l0_1 : List (S52)) (A0_2 : Option Addr) (c0_2 : Nat) (l0_2 : List (S48)) (r : List (List Int)) (w : World) (hr0_1 : Kd.C k52 w A0_1 l0_1.length l0_1) (hc0_1 : l0_1.length ≤ c0_1) (hr0_2 : Kd.C k48 w A0_2 l0_2.length l0_2) (hc0_2 : l0_2.length ≤ c0_2) (h : netclass_Flow.f k a0_0 l0_1 l0_2 = some r) :
  Calls Try.prog 55 #[.agg #[.string a0_0, .slice A0_1 l0_1.length c0_1, .slice A0_2 l0_2.length c0_2]] w fun e w' => ∃ v0_ : Value, e = .returned (v0_) ∧ Kd.S (Kd.slice 3 (Kd.int .i64)) 39 w' w.heap.size (fun _ => True) v0_ r ∧ Below w.heap.size w w' := by
 have hu25 := Try.underlying25
 have hu48 := Try.underlying48
 have hu55 := Try.underlying55
 have HR0_1 := am hr0_1
 have HC0_1 := am hc0_1
 clear hr0_1 hc0_1
 have HR0_2 := am hr0_2
 have HC0_2 := am hc0_2
 clear hr0_2 hc0_2
 have HB := am (Below.refl w.heap.size w)
 have H : ((netclass_valid.f k a0_0 l0_1 l0_2).bind fun t149 => (if t149 = true then (if 0 ≤ (wrap64 ((l0_1.length : Int) + (l0_2.length : Int))) then (if (wrap64 ((l0_1.length : Int) + (l0_2.length : Int)) : Int).toNat ≤ 11728124029610 then (netclass_Flow.l0 k (l0_1.length : Int) (List.replicate (wrap64 ((l0_1.length : Int) + (l0_2.length : Int)) : Int).toNat []) l0_2 (l0_2.length : Int) 0) else (none)) else (none)) else (some ([] : List (List Int))))) = some r := h
 clear h
 replace H := bnd H
 obtain ⟨t149, A2, H⟩ := H
 (try dsimp only at H)
 by_cases c3 : t149 = true
 rotate_left
 ·replace c3 := Bool.eq_false_iff.mpr c3
  subst c3
  rw [if_neg Bool.false_ne_true] at H
  obtain rfl := Option.some.inj H
  go_enter Try.func55, Try.ntmps55
  go_wp2_with (first | ((with_reducible refine gate_dst (N := 1) rfl ?_); refine box_ev (N := 1) (cs := #[.string a0_0, .slice A0_1 l0_1.length c0_1, .slice A0_2 l0_2.length c0_2]) (t := 25) ?_; intro gb148 hg w61 hbox hb; have BK148 := am hbox; have GW148 := gwl hg; have GE148 := GW148; replace HB := bsl hb; clear hb hbox hg; obtain ⟨z62_0, z62_1, z62_2, y62_0, y62_1, y62_2⟩ := cf3 BK148.1) | ((with_reducible refine gate_callee (f := 53) rfl ?_); refine gC 12 Try.func53 _ (netclass_valid.calls k a0_0 _ _ l0_1 _ _ l0_2 false _ (csb HR0_1 HB) HC0_1.1 (csb HR0_2 HB) HC0_2.1 A2.1) ?_; rintro e w63 ⟨rfl, hb⟩; refine ⟨_, rfl, ?_⟩; replace BK148 := bbh BK148 hb; replace HB := bst hb; (try clear hb)))
  go_ret
  exact ⟨_, per, knl, pbg⟩
 subst c3
 rw [if_pos rfl] at H
 obtain ⟨ji4, hji4⟩ : ∃ j_ : Int, (wrap64 ((l0_1.length : Int) + (l0_2.length : Int))) = j_ := ⟨_, rfl⟩
 replace H : (if 0 ≤ (ji4) then (if (ji4 : Int).toNat ≤ 11728124029610 then (netclass_Flow.l0 k (l0_1.length : Int) (List.replicate (ji4 : Int).toNat []) l0_2 (l0_2.length : Int) 0) else (none)) else (none)) = some r := by first | (rw [hji4] at H; exact H) | (simp only [hji4] at H ⊢; exact H)
 (try rw [hji4] at A2)
 have hji4w : (IntKind.i64.wrap ((l0_1.length : Int) + (l0_2.length : Int))) = ji4 := (i64_w _).trans hji4
 replace H := ifp H
 obtain ⟨c5, H⟩ := H
 have c5b0 := eq_true c5
 have c5b1 : decide (0 ≤ (ji4)) = true := decide_eq_true c5
 clear c5
 replace H := ifp H
 obtain ⟨c6, H⟩ := H
 have c6b0 := eq_true c6
 have c6b1 : decide ((ji4 : Int).toNat ≤ 11728124029610) = true := decide_eq_true c6
 clear c6
 obtain ⟨y150, hy150⟩ : ∃ y_ : List (List Int), y_ = (List.replicate (ji4 : Int).toNat []) := ⟨_, rfl⟩
 replace H : (netclass_Flow.l0 k (l0_1.length : Int) y150 l0_2 (l0_2.length : Int) 0) = some r := hrp hy150 H
 have Ny150 := am hy150
 clear hy150
 have H' := am H
 clear H
 go_enter Try.func55, Try.ntmps55
 go_wp2_with (first | ((with_reducible refine gate_dst (N := 1) rfl ?_); refine box_ev (N := 1) (cs := #[.string a0_0, .slice A0_1 l0_1.length c0_1, .slice A0_2 l0_2.length c0_2]) (t := 25) ?_; intro gb148 hg w7 hbox hb; have BK148 := am hbox; have GW148 := gwl hg; have GE148 := GW148; replace HB := bsl hb; clear hb hbox hg; obtain ⟨z8_0, z8_1, z8_2, y8_0, y8_1, y8_2⟩ := cf3 BK148.1) | ((with_reducible refine gate_callee (f := 53) rfl ?_); refine gC 12 Try.func53 _ (netclass_valid.calls k a0_0 _ _ l0_1 _ _ l0_2 true _ (csb HR0_1 HB) HC0_1.1 (csb HR0_2 HB) HC0_2.1 A2.1) ?_; rintro e w9 ⟨rfl, hb⟩; refine ⟨_, rfl, ?_⟩; replace BK148 := bbh BK148 hb; replace HB := bst hb; (try clear hb); obtain ⟨z10_0, z10_1, z10_2, y10_0, y10_1, y10_2⟩ := cf3 BK148.1) | ((with_reducible refine gate_dst (N := 22) rfl ?_); refine Kd.S_make (Kd.slice 3 (Kd.int .i64)) _ 39 rfl (N := 22) rfl 72 _ _ rfl ji4 rfl rfl Try.underlying72 (.slice none 0 0) 24 info39 rfl (by decide) (by omega) [] (ok := fun _ => True) (okp := fun _ => True) ⟨_, rfl, Kd.R_nil _ _ _ _ _⟩ (fun _ hk => hk) trivial (dq) (Nat.le_trans (Nat.mul_le_mul_right _ (dq : ji4.toNat ≤ 11728124029610)) (by omega)) (Below.refl _ _) (Nat.le_refl _) ?_; intro v151 w11 ho12 hb hg_ hnew_; clear hg_ hnew_; (first | rw [← Ny150.1] at ho12 | (simp only [Int.reduceToNat] at ho12; rw [← Ny150.1] at ho12)); have HO152 := am (Kd.S_lower ho12 (below_size pbg)); replace BK148 := bbh BK148 hb; replace HB := bst hb; clear hb ho12; obtain ⟨z13_0, z13_1, z13_2, y13_0, y13_1, y13_2⟩ := cf3 BK148.1))
 go_loopg [26] k (fun kq v26 w' => ∃ (x4_1 : List (List Int)) (x26_1 : Int), v26 = .int .i64 x26_1 ∧ Aside0 (netclass_Flow.l0 kq (l0_1.length : Int) x4_1 l0_2 (l0_2.length : Int) x26_1 = some r) ∧ Aside0 (kq ≤ k) ∧ Aside0 (Kd.S (Kd.slice 3 (Kd.int .i64)) 39 w' w.heap.size (fun _ => True) v151 x4_1) ∧ Aside0 (w'.heap[gb148]? = some (.cells #[.string a0_0, (.slice A0_1 l0_1.length c0_1), (.slice A0_2 l0_2.length c0_2)] 25 (0, 0))) ∧ Aside0 (Below w.heap.size w w'))
 case atStart => exact ⟨(y150), (0), prs, H', ⟨Nat.le_refl _⟩, ⟨pks HO152.1⟩, ⟨pbk BK148.1⟩, ⟨pbg⟩⟩
 clear H'
 try clear c3 c5 c5b0 c5b1 c6 c6b0 c6b1 z10_0 z10_1 z10_2 z13_0 z13_1 z13_2 z8_0 z8_1 z8_2 y10_0 y10_1 y10_2 y13_0 y13_1 y13_2 y8_0 y8_1 y8_2
 obtain ⟨x4_1, x26_1, rfl, HA, HK1, HO_4, BK148, HB⟩ := hrel
 obtain _ | k1 := gk
 ·exact absurd HA.1 (by simp [netclass_Flow.l0])
 have H := HA.1
 clear HA
 simp only [netclass_Flow.l0] at H
 by_cases c14 : x26_1 < (l0_2.length : Int)
 rotate_left
 ·rw [if_neg c14] at H
  have c14b0 : decide (x26_1 < (l0_2.length : Int)) = false := decide_eq_false c14
  clear c14
  obtain rfl := Option.some.inj H
  go_wp2
  go_ret
  exact ⟨_, by first | rfl | (simp [errW_none, errW_some] <;> rfl) | (simp only [← hji4]; first | rfl | (simp [errW_none, errW_some] <;> rfl)) | (simp [*, errW_none, errW_some] <;> rfl), by (with_reducible repeat (first | apply Kd.S_alloc | apply Kd.S_drewN | apply Kd.S_drew)); exact HO_4.1, pbg⟩
 rw [if_pos c14] at H
 have c14b0 : decide (x26_1 < (l0_2.length : Int)) = true := decide_eq_true c14
 clear c14
 replace H := ifp H
 obtain ⟨c15, H⟩ := H
 have c15b0 := decide_eq_true c15
 clear c15
 replace H := ifp H
 obtain ⟨c16, H⟩ := H
 have c16b0 := decide_eq_true c16
 clear c16
 have H' := am H
 clear H
 obtain ⟨p153, q153, ad153, A153_1, c153_1, A153_2, c153_2, A153_3, c153_3, e153, hx153_0, hx153_1, hx153_2, hx153_3, hx153_4, HC153_1, HR153_1, HC153_2, HR153_2, HC153_3, HR153_3⟩ := bT48 HR0_2.1 HB.1 x26_1
 cases e153
 go_wp2_with (first | ((with_reducible refine gate_dst (N := 6) rfl ?_); refine box_ev (N := 6) (cs := #[.string (⟨#[]⟩ : ByteArray), .slice none 0 0, .slice none 0 0, .slice none 0 0, .int .i64 0]) (t := 48) ?_; intro gb154 hg w17 hbox hb; have BK154 := am hbox; have GW154 := gwb hg; have GE154 := GW154; have NB148_154 := nlt hg BK148; have NB154_148 := ngt hg BK148; replace HO_4 := sbw HO_4 hb; replace BK148 := bbh BK148 hb; replace HB := bst hb; clear hb hbox hg; have hnb18 := NB154_148.1; have hnc18 := NB148_154.1; obtain ⟨z19_0, z19_1, z19_2, z19_3, z19_4, y19_0, y19_1, y19_2, y19_3, y19_4⟩ := cf5 BK154.1))
 go_loopg [34] k1 (fun kq v34 w' => ∃ (x4_2 : List (List Int)) (x34_2 : Int), v34 = .int .i64 x34_2 ∧ Aside0 (netclass_Flow.l1 kq (l0_1.length : Int) x4_2 x26_1 l0_2 (l0_2.length : Int) x26_1 ((rd_T48 l0_2 x26_1).f1) (((rd_T48 l0_2 x26_1).f1).length : Int) x34_2 ((rd_T48 l0_2 x26_1).f0) ((rd_T48 l0_2 x26_1).f1) ((rd_T48 l0_2 x26_1).f2) ((rd_T48 l0_2 x26_1).f3) ((rd_T48 l0_2 x26_1).f4) = some r) ∧ Aside0 (kq ≤ k1) ∧ Aside0 (Kd.S (Kd.slice 3 (Kd.int .i64)) 39 w' w.heap.size (fun _ => True) v151 x4_2) ∧ Aside0 (w'.heap[gb148]? = some (.cells #[.string a0_0, (.slice A0_1 l0_1.length c0_1), (.slice (some ad153) l0_2.length c0_2)] 25 (0, 0))) ∧ Aside0 (w'.heap[gb154]? = some (.cells #[.string ((rd_T48 l0_2 x26_1).f0), (.slice A153_1 ((rd_T48 l0_2 x26_1).f1).length c153_1), (.slice A153_2 ((rd_T48 l0_2 x26_1).f2).length c153_2), (.slice A153_3 ((rd_T48 l0_2 x26_1).f3).length c153_3), .int .i64 ((rd_T48 l0_2 x26_1).f4)] 48 (0, 0))) ∧ Aside0 (Below w.heap.size w w'))
 case atStart => exact ⟨(x4_1), (0), prs, H', ⟨Nat.le_refl _⟩, ⟨by (with_reducible repeat (first | apply Kd.S_alloc | apply Kd.S_drewN | apply Kd.S_drew)); exact Kd.S_mono (Kd.S_far (p := ⟨gb154, 4, none⟩) (Kd.S_far (p := ⟨gb154, 3, none⟩) (Kd.S_far (p := ⟨gb154, 2, none⟩) (Kd.S_far (p := ⟨gb154, 1, none⟩) (Kd.S_far (p := ⟨gb154, 0, none⟩) (Kd.S_types HO_4.1 BK154.1 (by decide)) (fun _ hk => hk.2) _) (fun _ hk => hk.2) _) (fun _ hk => hk.2) _) (fun _ hk => hk.2) _) (fun _ hk => hk.2) _) (fun _ hk => trivial)⟩, ⟨by (with_reducible repeat (first | refine blk_drewN ?_ _ | refine blk_drew ?_ | refine blk_alloc ?_ _)); refine bf5 ?_ NB148_154.1; exact pbk BK148.1⟩, ⟨by (with_reducible repeat (first | refine blk_drewN ?_ _ | refine blk_drew ?_ | refine blk_alloc ?_ _)); exact bp5 (pbk BK154.1)⟩, ⟨pbg⟩⟩
 clear H'
 try clear c3 c5 c5b0 c5b1 c6 c6b0 c6b1 c14 c14b0 c15 c15b0 c16 c16b0 z10_0 z10_1 z10_2 z13_0 z13_1 z13_2 z19_0 z19_1 z19_2 z19_3 z19_4 z8_0 z8_1 z8_2 y10_0 y10_1 y10_2 y13_0 y13_1 y13_2 y19_0 y19_1 y19_2 y19_3 y19_4 y8_0 y8_1 y8_2 hx153_0 hx153_1 hx153_2 hx153_3 hx153_4 p153 q153
 obtain ⟨x4_2, x34_2, rfl, HA, HK2, HO_4, BK148, BK154, HB⟩ := hrel
 obtain _ | k2 := gk
 ·exact absurd HA.1 (by simp [netclass_Flow.l1])
 have H := HA.1
 clear HA
 simp only [netclass_Flow.l1] at H
 by_cases c20 : x34_2 < (((rd_T48 l0_2 x26_1).f1).length : Int)
 ·rw [if_pos c20] at H
  have c20b0 : decide (x34_2 < (((rd_T48 l0_2 x26_1).f1).length : Int)) = true := decide_eq_true c20
  clear c20
  replace H := ifp H
  obtain ⟨c21, H⟩ := H
  have c21b0 := decide_eq_true c21
  clear c21
  replace H := ifp H
  obtain ⟨c22, H⟩ := H
  have c22b0 := decide_eq_true c22
  clear c22
  replace H := ifp H
  obtain ⟨c23, H⟩ := H
  have c23b0 := decide_eq_true c23
  clear c23
  replace H := ifp H
  obtain ⟨c24, H⟩ := H
  have c24b0 := decide_eq_true c24
  clear c24
  replace H := ifp H
  obtain ⟨c25, H⟩ := H
  have LMc25 := am c25
  clear c25
  obtain ⟨y158, hy158⟩ : ∃ y_ : List Int, y_ = ((rd_L11 x4_2 ((rd_T55 ((rd_T48 l0_2 x26_1).f1) x34_2).f0)) ++ [wrap64 ((l0_1.length : Int) + x26_1)]) := ⟨_, rfl⟩
  replace H : (netclass_Flow.l1 k2 (l0_1.length : Int) (x4_2.set (((rd_T55 ((rd_T48 l0_2 x26_1).f1) x34_2).f0) : Int).toNat y158) x26_1 l0_2 (l0_2.length : Int) x26_1 ((rd_T48 l0_2 x26_1).f1) (((rd_T48 l0_2 x26_1).f1).length : Int) (wrap64 (x34_2 + 1)) ((rd_T48 l0_2 x26_1).f0) ((rd_T48 l0_2 x26_1).f1) ((rd_T48 l0_2 x26_1).f2) ((rd_T48 l0_2 x26_1).f3) ((rd_T48 l0_2 x26_1).f4)) = some r := hrp hy158 H
  have Ny158 := am hy158
  clear hy158
  obtain ⟨y161, hy161⟩ : ∃ y_ : List (List Int), y_ = (x4_2.set (((rd_T55 ((rd_T48 l0_2 x26_1).f1) x34_2).f0) : Int).toNat y158) := ⟨_, rfl⟩
  replace H : (netclass_Flow.l1 k2 (l0_1.length : Int) y161 x26_1 l0_2 (l0_2.length : Int) x26_1 ((rd_T48 l0_2 x26_1).f1) (((rd_T48 l0_2 x26_1).f1).length : Int) (wrap64 (x34_2 + 1)) ((rd_T48 l0_2 x26_1).f0) ((rd_T48 l0_2 x26_1).f1) ((rd_T48 l0_2 x26_1).f2) ((rd_T48 l0_2 x26_1).f3) ((rd_T48 l0_2 x26_1).f4)) = some r := hrp hy161 H
  have Ny161 := am hy161
  clear hy161
  have H' := am H
  clear H
  obtain ⟨p155, q155, ad155, e155, hx155_0, hx155_1⟩ := bT55 HR153_1.1 HB.1 x34_2
  cases e155
  try go_wp2_with (first | ((with_reducible refine gate_dst (N := 8) rfl ?_); refine box_ev (N := 8) (cs := #[.int .i64 0, .int .i64 0]) (t := 55) ?_; intro gb156 hg w27 hbox hb; have BK156 := am hbox; have GW156 := gwb hg; have GE156 := GW156; have NB148_156 := nlt hg BK148; have NB156_148 := ngt hg BK148; have NB154_156 := nlt hg BK154; have NB156_154 := ngt hg BK154; replace HO_4 := sbw HO_4 hb; replace BK148 := bbh BK148 hb; replace BK154 := bbh BK154 hb; replace HB := bst hb; clear hb hbox hg; have hnb28 := NB156_148.1; have hnc28 := NB148_156.1; have hnb29 := NB156_154.1; have hnc29 := NB154_156.1; obtain ⟨z30_0, z30_1, y30_0, y30_1⟩ := cf2 BK156.1))
  have n0_ : Aside0 (Kd.S (Kd.slice 3 (Kd.int .i64)) 39 ((w27.setCell ⟨gb156, 0, none⟩ (.int .i64 ((rd_T55 ((rd_T48 l0_2 x26_1).f1) x34_2).f0))).setCell ⟨gb156, 1, none⟩ (.int .i64 ((rd_T55 ((rd_T48 l0_2 x26_1).f1) x34_2).f1))) w.heap.size (fun _ => True) v151 x4_2) := ⟨by (with_reducible repeat (first | apply Kd.S_alloc | apply Kd.S_drewN | apply Kd.S_drew)); exact Kd.S_mono (Kd.S_far (p := ⟨gb156, 1, none⟩) (Kd.S_far (p := ⟨gb156, 0, none⟩) (Kd.S_types HO_4.1 BK156.1 (by decide)) (fun _ hk => hk.2) (.int .i64 ((rd_T55 ((rd_T48 l0_2 x26_1).f1) x34_2).f0))) (fun _ hk => hk.2) (.int .i64 ((rd_T55 ((rd_T48 l0_2 x26_1).f1) x34_2).f1))) (fun _ hk => trivial)⟩
  have n1_ : Aside0 (((w27.setCell ⟨gb156, 0, none⟩ (.int .i64 ((rd_T55 ((rd_T48 l0_2 x26_1).f1) x34_2).f0))).setCell ⟨gb156, 1, none⟩ (.int .i64 ((rd_T55 ((rd_T48 l0_2 x26_1).f1) x34_2).f1))).heap[gb148]? = some (.cells #[.string a0_0, .slice A0_1 l0_1.length c0_1, .slice (some ad153) l0_2.length c0_2] 25 (0, 0))) := ⟨by (with_reducible repeat (first | refine blk_drewN ?_ _ | refine blk_drew ?_ | refine blk_alloc ?_ _)); refine bf2 ?_ NB148_156.1; exact pbk BK148.1⟩
  have n2_ : Aside0 (((w27.setCell ⟨gb156, 0, none⟩ (.int .i64 ((rd_T55 ((rd_T48 l0_2 x26_1).f1) x34_2).f0))).setCell ⟨gb156, 1, none⟩ (.int .i64 ((rd_T55 ((rd_T48 l0_2 x26_1).f1) x34_2).f1))).heap[gb154]? = some (.cells #[.string ((rd_T48 l0_2 x26_1).f0), .slice (some ad155) ((rd_T48 l0_2 x26_1).f1).length c153_1, .slice A153_2 ((rd_T48 l0_2 x26_1).f2).length c153_2, .slice A153_3 ((rd_T48 l0_2 x26_1).f3).length c153_3, .int .i64 ((rd_T48 l0_2 x26_1).f4)] 48 (0, 0))) := ⟨by (with_reducible repeat (first | refine blk_drewN ?_ _ | refine blk_drew ?_ | refine blk_alloc ?_ _)); refine bf2 ?_ NB154_156.1; exact pbk BK154.1⟩
  have n3_ : Aside0 (((w27.setCell ⟨gb156, 0, none⟩ (.int .i64 ((rd_T55 ((rd_T48 l0_2 x26_1).f1) x34_2).f0))).setCell ⟨gb156, 1, none⟩ (.int .i64 ((rd_T55 ((rd_T48 l0_2 x26_1).f1) x34_2).f1))).heap[gb156]? = some (.cells #[.int .i64 ((rd_T55 ((rd_T48 l0_2 x26_1).f1) x34_2).f0), .int .i64 ((rd_T55 ((rd_T48 l0_2 x26_1).f1) x34_2).f1)] 55 (0, 0))) := ⟨by (with_reducible repeat (first | refine blk_drewN ?_ _ | refine blk_drew ?_ | refine blk_alloc ?_ _)); exact bp2 (pbk BK156.1)⟩
  have n4_ : Aside0 (Below w.heap.size w ((w27.setCell ⟨gb156, 0, none⟩ (.int .i64 ((rd_T55 ((rd_T48 l0_2 x26_1).f1) x34_2).f0))).setCell ⟨gb156, 1, none⟩ (.int .i64 ((rd_T55 ((rd_T48 l0_2 x26_1).f1) x34_2).f1)))) := ⟨pbg⟩
  (try clear HO_4)
  (try clear BK148)
  (try clear BK154)
  (try clear BK156)
  (try clear HB)
  generalize ((w27.setCell ⟨gb156, 0, none⟩ (.int .i64 ((rd_T55 ((rd_T48 l0_2 x26_1).f1) x34_2).f0))).setCell ⟨gb156, 1, none⟩ (.int .i64 ((rd_T55 ((rd_T48 l0_2 x26_1).f1) x34_2).f1))) = w31 at n0_ n1_ n2_ n3_ n4_ ⊢
  have HO_4 := n0_
  have BK148 := n1_
  have BK154 := n2_
  have BK156 := n3_
  have HB := n4_
  clear n0_ n1_ n2_ n3_ n4_
  replace HO_4 := am (Kd.S_drew HO_4.1)
  replace BK148 := am (blk_drew BK148.1)
  replace BK154 := am (blk_drew BK154.1)
  replace BK156 := am (blk_drew BK156.1)
  replace HB := am (below_drew1 HB.1)
  obtain ⟨Ao33, co33, eo33⟩ := Kd.S_slice HO_4.1
  (first | subst eo33 | (injection eo33 with f1_ f2_ f3_; have f4_ := f1_.symm; have f5_ := f3_.symm; clear f1_ f2_ f3_; subst f4_; subst f5_))
  have p157 : 0 ≤ (((rd_T55 ((rd_T48 l0_2 x26_1).f1) x34_2).f0) : Int) := dq
  have q157 : ((rd_T55 ((rd_T48 l0_2 x26_1).f1) x34_2).f0) < (x4_2.length : Int) := dq
  obtain ⟨ad157, A157_0, c157_0, e157, hx157_0, hl157_0, hi157_0⟩ := at_L11 (Kd.S_reads' HO_4.1).2.2 ((rd_T55 ((rd_T48 l0_2 x26_1).f1) x34_2).f0) p157 q157
  cases e157
  obtain ⟨ce157, hce157, hMe157, hcc157⟩ := Kd.S_get HO_4.1 [] ((rd_T55 ((rd_T48 l0_2 x26_1).f1) x34_2).f0) p157 (by first | exact q157 | exact dq | (have e_ := (Kd.S_reads' HO_4.1).1; omega))
  obtain ⟨ve157_0, rfl, ge157_0⟩ := hMe157
  have hv157_0 := hcc157 0 _ rfl
  rw [Nat.add_zero, show ((Kd.slice 3 (Kd.int .i64))).sz = 1 from rfl, Nat.mul_one] at hv157_0
  replace hv157_0 := Option.some.inj (hv157_0.symm.trans hx157_0)
  rw [hv157_0] at ge157_0
  have HL157_0 := am (show Kd.R (Kd.int .i64) 3 _ _ _ _ (rd_L11 x4_2 ((rd_T55 ((rd_T48 l0_2 x26_1).f1) x34_2).f0)) from ge157_0)
  clear hv157_0 ge157_0
  have HX157_0 := am hx157_0
  clear hcc157 hce157
  have HR157_0 := am hi157_0
  have HC157_0 := am hl157_0
  clear hi157_0 hl157_0
  replace p157 := eq_true p157
  replace q157 := eq_true q157
  obtain ⟨go34, co34, eo34, gb34, gl34, cl34, HG34⟩ := Kd.S_form HO_4.1 (by have h_ : (((rd_T55 ((rd_T48 l0_2 x26_1).f1) x34_2).f0) : Int) < ((x4_2.length : Int) : Int) := dq; have h2_ : 0 ≤ (((rd_T55 ((rd_T48 l0_2 x26_1).f1) x34_2).f0) : Int) := (dq); omega)
  (first | cases eo34 | (injection eo34 with ea_ en_ ec_; (first | subst ea_ | (injection ea_ with ea_; subst ea_)); subst ec_; clear en_))
  have GB34 := am gb34
  have GG34 := am HG34
  clear gb34 gl34 HG34
  (first | simp only [add_plain] at hx157_0 | skip)
  obtain ⟨oki34, ce34, hcl34, hM34, hcc34, _, _, hH34⟩ := Kd.S_elem HO_4.1 [] (((rd_T55 ((rd_T48 l0_2 x26_1).f1) x34_2).f0) : Int) (dq) (by have h_ : (((rd_T55 ((rd_T48 l0_2 x26_1).f1) x34_2).f0) : Int) < ((x4_2.length : Int) : Int) := dq; first | exact h_ | (have e_ := (Kd.S_reads' HO_4.1).1; omega) | simpa using h_)
  obtain ⟨ve34_0, rfl, ge34_0⟩ := hM34
  have hv34 := hcc34 0 _ rfl
  have hX34 := HX157_0.1
  (try simp only [add_plain] at hX34)
  (try simp only [Nat.add_zero] at hv34)
  (try rw [show ((Kd.slice 3 (Kd.int .i64))).sz = 1 from rfl, Nat.mul_one] at hv34)
  replace hv34 := Option.some.inj (hv34.symm.trans hX34)
  subst hv34
  clear hX34 hcc34 hcl34
  have UU34 := am (show Kd.R (Kd.int .i64) 3 _ w.heap.size oki34 (.slice A157_0 (rd_L11 x4_2 ((rd_T55 ((rd_T48 l0_2 x26_1).f1) x34_2).f0)).length c157_0) (rd_L11 x4_2 ((rd_T55 ((rd_T48 l0_2 x26_1).f1) x34_2).f0)) from ge34_0)
  have HH34 := am hH34
  have HN34 := am (Kd.S_reads' HO_4.1).1
  clear hH34 ge34_0
  refine start_ (n := 15) (S := fun w' => w'.cell? ⟨gb156, 0, none⟩ = some (.int .i64 ((rd_T55 ((rd_T48 l0_2 x26_1).f1) x34_2).f0)) ∧ w'.cell? ⟨gb156, 1, none⟩ = some (.int .i64 ((rd_T55 ((rd_T48 l0_2 x26_1).f1) x34_2).f1)) ∧ w'.cell? ⟨go34, (((rd_T55 ((rd_T48 l0_2 x26_1).f1) x34_2).f0)).toNat, none⟩ = some (.slice A157_0 (rd_L11 x4_2 ((rd_T55 ((rd_T48 l0_2 x26_1).f1) x34_2).f0)).length c157_0)) (ds := [14]) #[false, false, false, false, false, false, false, false, false, false, false, false, false, false, false] (by kernel_rfl) rfl rfl ⟨(blk_cell BK156.1 0).trans rfl, (blk_cell BK156.1 1).trans rfl, hx157_0⟩ (fun hHeld => ?_); refine with_tabW netclass_Flow.tab11 netclass_Flow.bits11 (fun HT_ HW_ => ?_)
  generalize w31.drew = w32 at HO_4 BK148 BK154 BK156 HB GG34 HH34 HL157_0 HR157_0 HX157_0 UU34 hx157_0 hHeld ⊢
  refine pure_ (i := 0) (N := some 38) (v := ?_) (a' := ?_) #[true, false, false, false, false, false, false, false, false, false, false, false, false, false, false] rfl rfl (any_of HT_.1 (by kernel_rfl)) (fun _ _ _ h => h) (Or.inl ⟨by rfl, ?_⟩) ?_ ?_
  rotate_left
  ·intro w'
   go_simp
   with_reducible rfl
  rotate_left
  ·simp only [Act.put, List.setIfInBounds_toArray, List.set_cons_zero, List.set_cons_succ, i64_w, i32_w]
   rfl
  refine pure_ (i := 1) (N := some 39) (v := ?_) (a' := ?_) #[true, true, false, false, false, false, false, false, false, false, false, false, false, false, false] rfl rfl (any_of HT_.1 (by kernel_rfl)) (fun _ _ _ h => h) (Or.inl ⟨by rfl, ?_⟩) ?_ ?_
  rotate_left
  ·intro w'
   go_simp
   with_reducible rfl
  rotate_left
  ·simp only [Act.put, List.setIfInBounds_toArray, List.set_cons_zero, List.set_cons_succ, i64_w, i32_w]
   rfl
  refine pure_ (i := 3) (N := some 41) (v := ?_) (a' := ?_) #[true, true, false, true, false, false, false, false, false, false, false, false, false, false, false] rfl rfl (any_of HT_.1 (by kernel_rfl)) (fun _ _ _ h => h) (Or.inl ⟨by rfl, ?_⟩) ?_ ?_
  rotate_left
  ·intro w'
   go_simp
   with_reducible rfl
  rotate_left
  ·simp only [Act.put, List.setIfInBounds_toArray, List.set_cons_zero, List.set_cons_succ, i64_w, i32_w]
   rfl
  refine pure_ (i := 4) (N := some 42) (v := ?_) (a' := ?_) #[true, true, false, true, true, false, false, false, false, false, false, false, false, false, false] rfl rfl (any_of HT_.1 (by kernel_rfl)) (fun _ _ _ h => h) (Or.inl ⟨by rfl, ?_⟩) ?_ ?_
  rotate_left
  ·intro w'
   go_simp
   with_reducible rfl
  rotate_left
  ·simp only [Act.put, List.setIfInBounds_toArray, List.set_cons_zero, List.set_cons_succ, i64_w, i32_w]
   rfl
  refine pure_ (i := 8) (N := some 46) (v := ?_) (a' := ?_) #[true, true, false, true, true, false, false, false, true, false, false, false, false, false, false] rfl rfl (any_of HT_.1 (by kernel_rfl)) (fun _ _ _ h => h) (Or.inl ⟨by rfl, ?_⟩) ?_ ?_
  rotate_left
  ·intro w'
   go_simp
   with_reducible rfl
  rotate_left
  ·simp only [Act.put, List.setIfInBounds_toArray, List.set_cons_zero, List.set_cons_succ, i64_w, i32_w]
   rfl
  refine pure_ (i := 9) (N := some 47) (v := ?_) (a' := ?_) #[true, true, false, true, true, false, false, false, true, true, false, false, false, false, false] rfl rfl (any_of HT_.1 (by kernel_rfl)) (fun _ _ _ h => h) (Or.inl ⟨by rfl, ?_⟩) ?_ ?_
  rotate_left
  ·intro w'
   go_simp
   with_reducible rfl
  rotate_left
  ·simp only [Act.put, List.setIfInBounds_toArray, List.set_cons_zero, List.set_cons_succ, i64_w, i32_w]
   rfl
  refine pure_ (i := 10) (N := some 48) (v := ?_) (a' := ?_) #[true, true, false, true, true, false, false, false, true, true, true, false, false, false, false] rfl rfl (any_of HT_.1 (by kernel_rfl)) (fun _ _ _ h => h) (Or.inl ⟨by rfl, ?_⟩) ?_ ?_
  rotate_left
  ·intro w'
   go_simp
   with_reducible rfl
  rotate_left
  ·simp only [Act.put, List.setIfInBounds_toArray, List.set_cons_zero, List.set_cons_succ, i64_w, i32_w]
   rfl
  refine take_ (i := 2) (N := some 40) (v := ?_) (a' := ?_) #[true, true, true, true, true, false, false, false, true, true, true, false, false, false, false] rfl rfl (take_ofW HT_.1 HW_.1 (by kernel_rfl)) (fun _ _ _ h => h) (Or.inl ⟨by rfl, ?_⟩) hHeld ?_ ?_
  rotate_left
  ·rintro w' ⟨s0, s1, s2⟩
   go_simp
   with_reducible rfl
  rotate_left
  ·simp only [Act.put, List.setIfInBounds_toArray, List.set_cons_zero, List.set_cons_succ, i64_w, i32_w]
   rfl
  refine take_ (i := 5) (N := some 43) (v := ?_) (a' := ?_) #[true, true, true, true, true, true, false, false, true, true, true, false, false, false, false] rfl rfl (take_ofW HT_.1 HW_.1 (by kernel_rfl)) (fun _ _ _ h => h) (Or.inl ⟨by rfl, ?_⟩) hHeld ?_ ?_
  rotate_left
  ·rintro w' ⟨s0, s1, s2⟩
   go_simp
   with_reducible rfl
  rotate_left
  ·simp only [Act.put, List.setIfInBounds_toArray, List.set_cons_zero, List.set_cons_succ, i64_w, i32_w]
   rfl
  refine pure_ (i := 6) (N := some 44) (v := ?_) (a' := ?_) #[true, true, true, true, true, true, true, false, true, true, true, false, false, false, false] rfl rfl (any_of HT_.1 (by kernel_rfl)) (fun _ _ _ h => h) (Or.inl ⟨by rfl, ?_⟩) ?_ ?_
  rotate_left
  ·intro w'
   go_simp
   with_reducible rfl
  rotate_left
  ·simp only [Act.put, List.setIfInBounds_toArray, List.set_cons_zero, List.set_cons_succ, i64_w, i32_w]
   rfl
  refine take_ (i := 7) (N := some 45) (v := ?_) (a' := ?_) #[true, true, true, true, true, true, true, true, true, true, true, false, false, false, false] rfl rfl (take_ofW HT_.1 HW_.1 (by kernel_rfl)) (fun _ _ _ h => h) (Or.inl ⟨by rfl, ?_⟩) hHeld ?_ ?_
  rotate_left
  ·rintro w' ⟨s0, s1, s2⟩
   go_simp
   with_reducible rfl
  rotate_left
  ·simp only [Act.put, List.setIfInBounds_toArray, List.set_cons_zero, List.set_cons_succ, i64_w, i32_w]
   rfl
  refine one_ (i := 11) (N := some 49) #[true, true, true, true, true, true, true, true, true, true, true, true, false, false, false] rfl rfl (one_of HT_.1 (by kernel_rfl)) (by decide) (fun K hK => ?_)
  refine value_ (w1 := ?_) (v := ?_) (by rfl) rfl ?_ ?_
  rotate_left 2
  ·go_simp
   constructor
   ·rfl
   ·rfl
  refine hK.out _ _ ⟨(blk_cell (blk_alloc BK156.1 _) 0).trans rfl, (blk_cell (blk_alloc BK156.1 _) 1).trans rfl, (World.cell?_alloc_lt _ _ _ (World.block_lt_of_cell? _ _ (hHeld.2.2))).trans (hHeld.2.2)⟩ (fun hHeld => ?_)
  clear hK K
  refine norm_ (a' := ?_) ?_ ?_
  rotate_left
  ·show Act.put _ (some 49) _ = _
   simp only [Act.put, List.setIfInBounds_toArray, List.set_cons_zero, List.set_cons_succ, i64_w, i32_w]
   rfl
  refine one_ (i := 12) (N := some 50) #[true, true, true, true, true, true, true, true, true, true, true, true, true, false, false] rfl rfl (one_of HT_.1 (by kernel_rfl)) (by decide) (fun K hK => ?_)
  refine Kd.R_append_step (Kd.int .i64) (w0 := w) w.heap.size (by rfl) (.tmp 45) (.tmp 49) 39 3 (.int .i64 0) 8 rfl Try.underlying39 info3 rfl (by decide) (by omega) (.slice A157_0 (rd_L11 x4_2 ((rd_T55 ((rd_T48 l0_2 x26_1).f1) x34_2).f0)).length c157_0) (rd_L11 x4_2 ((rd_T55 ((rd_T48 l0_2 x26_1).f1) x34_2).f0)) (wrap64 ((l0_1.length : Int) + x26_1)) [.int .i64 (wrap64 ((l0_1.length : Int) + x26_1))] (fun k_ => oki34 k_ ∨ ((fun _ => True)) k_ ∧ w32.heap.size ≤ k_) (fun _ => False) rfl rfl ?aP (fun _ hk => hk.elim) ?aF ?aO ?aB ?aS ?aL ?_
  (case aP => exact rfl)
  (case aB => exact pbg)
  (case aF => exact (fun k_ hk => .inr ⟨trivial, hk⟩))
  (case aO => exact (by (with_reducible repeat (first | apply Kd.R_alloc | apply Kd.R_drewN | apply Kd.R_drew)); exact Kd.R_mono UU34.1 (fun _ hk => .inl hk)))
  (case aS => exact (below_size pbg))
  (case aL => have := LMc25.1; omega)
  intro v159 w35 ho hb hg hat
  (first | have HS2_ := cell_grown hg (hHeld.2.2) (by first | (rw [add_block]; exact (fun e_ => ((HL157_0.1.1 _ e_.symm).2) rfl)) | (show some (Addr.add _ _).block ≠ _; rw [add_block]; exact (fun e_ => ((HL157_0.1.1 _ e_.symm).2) rfl)) | exact (fun e_ => ((HL157_0.1.1 _ e_.symm).2) rfl)) | have HS2_ := cell_grown hg (cell_unalloc (hHeld.2.2) (by first | (rw [add_block]; exact Kd.S_lt HO_4.1 _ rfl) | (show (Addr.add _ _).block < _; rw [add_block]; exact Kd.S_lt HO_4.1 _ rfl) | exact Kd.S_lt HO_4.1 _ rfl)) (by first | (rw [add_block]; exact (fun e_ => ((HL157_0.1.1 _ e_.symm).2) rfl)) | (show some (Addr.add _ _).block ≠ _; rw [add_block]; exact (fun e_ => ((HL157_0.1.1 _ e_.symm).2) rfl)) | exact (fun e_ => ((HL157_0.1.1 _ e_.symm).2) rfl)))
  rw [← Ny158.1] at ho
  have n0_ := am (blk_grown (g := gb148) (o := .cells #[.string a0_0, .slice A0_1 l0_1.length c0_1, .slice (some ad153) l0_2.length c0_2] 25 (0, 0)) (by exact pbk BK148.1) hg (Kd.R_ne HL157_0.1 BK148.1 (by decide)))
  have n1_ := am (blk_grown (g := gb154) (o := .cells #[.string ((rd_T48 l0_2 x26_1).f0), .slice (some ad155) ((rd_T48 l0_2 x26_1).f1).length c153_1, .slice A153_2 ((rd_T48 l0_2 x26_1).f2).length c153_2, .slice A153_3 ((rd_T48 l0_2 x26_1).f3).length c153_3, .int .i64 ((rd_T48 l0_2 x26_1).f4)] 48 (0, 0)) (by exact pbk BK154.1) hg (Kd.R_ne HL157_0.1 BK154.1 (by decide)))
  have n2_ := am (blk_grown (g := gb156) (o := .cells #[.int .i64 ((rd_T55 ((rd_T48 l0_2 x26_1).f1) x34_2).f0), .int .i64 ((rd_T55 ((rd_T48 l0_2 x26_1).f1) x34_2).f1)] 55 (0, 0)) (by exact pbk BK156.1) hg (Kd.R_ne HL157_0.1 BK156.1 (by decide)))
  have n3_ := am hb
  have n4_ := am (Kd.H_grown (Kd.H_widen (by repeat (first | exact HH34.1 | refine Kd.H_alloc ?_ _ | refine Kd.H_drewN ?_ _ | refine Kd.H_drew ?_))) hg (fun k_ e_ => .inl (UU34.1.1 k_ e_)))
  have n5_ := am ho
  clear BK148 BK154 BK156 HB HH34 HO_4 UU34 HL157_0
  have BK148 := n0_
  have BK154 := n1_
  have BK156 := n2_
  have HB := n3_
  have HH34 := n4_
  have HO160 := n5_
  clear n0_ n1_ n2_ n3_ n4_ n5_ ho hb hg hat
  have p26 : 0 ≤ (((rd_T55 ((rd_T48 l0_2 x26_1).f1) x34_2).f0) : Int) := dq
  have q26 : (((rd_T55 ((rd_T48 l0_2 x26_1).f1) x34_2).f0) : Int) < ((x4_2.length : Int) : Int) := dq
  replace p26 := eq_true p26
  replace q26 := eq_true q26
  obtain ⟨Ao38, co38, eo38⟩ := Kd.R_slice HO160.1
  (first | subst eo38 | (injection eo38 with f1_ f2_ f3_; have f4_ := f1_.symm; have f5_ := f3_.symm; clear f1_ f2_ f3_; subst f4_; subst f5_))
  obtain ⟨_, _, hraw36, _, _, hcc36, _⟩ := Kd.H_raw HH34.1 (dq) (by have h_ : (((rd_T55 ((rd_T48 l0_2 x26_1).f1) x34_2).f0) : Int) < ((x4_2.length : Int) : Int) := dq; first | exact h_ | (have e_ := (HN34.1); omega) | simpa using h_)
  obtain ⟨_, hfr36⟩ := Kd.H_at HH34.1 (dq) (by have h_ : (((rd_T55 ((rd_T48 l0_2 x26_1).f1) x34_2).f0) : Int) < ((x4_2.length : Int) : Int) := dq; first | exact h_ | (have e_ := (HN34.1); omega) | simpa using h_)
  have hx36_0 := hcc36 0 _ rfl
  have hf36_0 := hfr36 0
  (try simp only [Nat.add_zero] at hx36_0 hf36_0)
  (try rw [show ((Kd.slice 3 (Kd.int .i64))).sz = 1 from rfl, Nat.mul_one] at hx36_0)
  (try rw [show ((Kd.slice 3 (Kd.int .i64))).sz = 1 from rfl, Nat.mul_one] at hf36_0)
  have HP36 := Kd.S_seg0 HH34.1 (dq) (by have h_ : (((rd_T55 ((rd_T48 l0_2 x26_1).f1) x34_2).f0) : Int) < ((x4_2.length : Int) : Int) := dq; first | exact h_ | (have e_ := (HN34.1); omega) | simpa using h_) (seg := [.slice Ao38 y158.length co38]) (j := 0) (show 1 ≤ 1 from by decide) (x' := y158) (Kd.M_row HO160.1) (fun _ hk => hk)
  (try simp only [show ((Kd.slice 3 (Kd.int .i64))).sz = 1 from rfl, Nat.mul_one, Nat.add_zero] at HP36)
  clear hcc36 hfr36
  have HNB148_go34 := am (show gb148 ≠ go34 from by have h_ := Kd.R_ne hraw36 BK148.1 (by decide); intro e_; exact h_ (by rw [e_]; rfl))
  have HNB154_go34 := am (show gb154 ≠ go34 from by have h_ := Kd.R_ne hraw36 BK154.1 (by decide); intro e_; exact h_ (by rw [e_]; rfl))
  have HNB156_go34 := am (show gb156 ≠ go34 from by have h_ := Kd.R_ne hraw36 BK156.1 (by decide); intro e_; exact h_ (by rw [e_]; rfl))
  have HS36 := HP36.1
  rw [← Ny161.1] at HS36
  have HQ36 := am HS36
  obtain ⟨_, hgg36⟩ := Kd.R_typed hraw36 go34 rfl
  have GG36_ := am hgg36
  clear HP36 HS36 hgg36
  refine hK.out _ _ ⟨(blk_cell BK156.1 0).trans rfl, (blk_cell BK156.1 1).trans rfl, HS2_⟩ (fun hHeld => ?_)
  clear hK K
  refine norm_ (a' := ?_) ?_ ?_
  rotate_left
  ·show Act.put _ (some 50) _ = _
   simp only [Act.put, List.setIfInBounds_toArray, List.set_cons_zero, List.set_cons_succ, i64_w, i32_w]
   rfl
  refine pure_ (i := 13) (N := some 51) (v := ?_) (a' := ?_) #[true, true, true, true, true, true, true, true, true, true, true, true, true, true, false] rfl rfl (any_of HT_.1 (by kernel_rfl)) (fun _ _ _ h => h) (Or.inl ⟨by rfl, ?_⟩) ?_ ?_
  rotate_left
  ·intro w'
   go_simp
   with_reducible rfl
  rotate_left
  ·simp only [Act.put, List.setIfInBounds_toArray, List.set_cons_zero, List.set_cons_succ, i64_w, i32_w]
   rfl
  refine last_ (i := 14) (N := none) #[true, true, true, true, true, true, true, true, true, true, true, true, true, true, true] rfl rfl (one_of HT_.1 (by kernel_rfl)) (by decide) (fun K hK => ?_)
  refine skip_ (w1 := ?_) (by rfl) rfl ?_ ?_
  rotate_left
  ·go_simp
   rfl
  refine hK.out _ _ ?_
  clear hK K
  refine done_ (done_of HT_.1 (by kernel_rfl)) ?_
  try go_wp2
  go_roundg k2
  case measure => have := HK1.1; have := HK2.1; omega
  case rel => exact ⟨(y161), (wrap64 (x34_2 + 1)), prs, H', ⟨by have := HK1.1; have := HK2.1; omega⟩, ⟨pks HQ36.1⟩, ⟨by (with_reducible repeat (first | refine blk_drewN ?_ _ | refine blk_drew ?_ | refine blk_alloc ?_ _)); refine blk_far ?_ HNB148_go34.1 _; exact pbk BK148.1⟩, ⟨by (with_reducible repeat (first | refine blk_drewN ?_ _ | refine blk_drew ?_ | refine blk_alloc ?_ _)); refine blk_far ?_ HNB154_go34.1 _; exact pbk BK154.1⟩, ⟨pbg⟩⟩
 rw [if_neg c20] at H
 have c20b0 : decide (x34_2 < (((rd_T48 l0_2 x26_1).f1).length : Int)) = false := decide_eq_false c20
 clear c20
 have H' := am H
 clear H
 have hnb39 := NB154_148.1
 have hnc39 := NB148_154.1
 obtain ⟨z40_0, z40_1, z40_2, z40_3, z40_4, y40_0, y40_1, y40_2, y40_3, y40_4⟩ := cf5 BK154.1
 go_wp2
 go_loopg [56] k2 (fun kq v56 w' => ∃ (x4_3 : List (List Int)) (x56_3 : Int), v56 = .int .i64 x56_3 ∧ Aside0 (netclass_Flow.l2 kq (l0_1.length : Int) x4_3 x26_1 l0_2 (l0_2.length : Int) x26_1 ((rd_T48 l0_2 x26_1).f2) (((rd_T48 l0_2 x26_1).f2).length : Int) x56_3 = some r) ∧ Aside0 (kq ≤ k2) ∧ Aside0 (Kd.S (Kd.slice 3 (Kd.int .i64)) 39 w' w.heap.size (fun _ => True) v151 x4_3) ∧ Aside0 (w'.heap[gb148]? = some (.cells #[.string a0_0, (.slice A0_1 l0_1.length c0_1), (.slice (some ad153) l0_2.length c0_2)] 25 (0, 0))) ∧ Aside0 (w'.heap[gb154]? = some (.cells #[.string ((rd_T48 l0_2 x26_1).f0), (.slice A153_1 ((rd_T48 l0_2 x26_1).f1).length c153_1), (.slice A153_2 ((rd_T48 l0_2 x26_1).f2).length c153_2), (.slice A153_3 ((rd_T48 l0_2 x26_1).f3).length c153_3), .int .i64 ((rd_T48 l0_2 x26_1).f4)] 48 (0, 0))) ∧ Aside0 (Below w.heap.size w w'))
 case atStart => exact ⟨(x4_2), (0), prs, H', ⟨Nat.le_refl _⟩, ⟨pks HO_4.1⟩, ⟨pbk BK148.1⟩, ⟨pbk BK154.1⟩, ⟨pbg⟩⟩
 clear H'
 try clear c3 c5 c5b0 c5b1 c6 c6b0 c6b1 c14 c14b0 c15 c15b0 c16 c16b0 c20 c20b0 c21 c21b0 c22 c22b0 c23 c23b0 c24 c24b0 c25 p26 q26 z10_0 z10_1 z10_2 z13_0 z13_1 z13_2 z19_0 z19_1 z19_2 z19_3 z19_4 z30_0 z30_1 z40_0 z40_1 z40_2 z40_3 z40_4 z8_0 z8_1 z8_2 y10_0 y10_1 y10_2 y13_0 y13_1 y13_2 y19_0 y19_1 y19_2 y19_3 y19_4 y30_0 y30_1 y40_0 y40_1 y40_2 y40_3 y40_4 y8_0 y8_1 y8_2 hx153_0 hx153_1 hx153_2 hx153_3 hx153_4 hx155_0 hx155_1 hx157_0 hx36_0 p153 p155 p157 p26 q153 q155 q157 q26
 obtain ⟨x4_3, x56_3, rfl, HA, HK3, HO_4, BK148, BK154, HB⟩ := hrel
 obtain _ | k3 := gk
 ·exact absurd HA.1 (by simp [netclass_Flow.l2])
 have H := HA.1
 clear HA
 simp only [netclass_Flow.l2] at H
 by_cases c41 : x56_3 < (((rd_T48 l0_2 x26_1).f2).length : Int)
 rotate_left
 ·rw [if_neg c41] at H
  have c41b0 : decide (x56_3 < (((rd_T48 l0_2 x26_1).f2).length : Int)) = false := decide_eq_false c41
  clear c41
  have H' := am H
  clear H
  go_wp2
  go_roundg k3
  case measure => have := HK1.1; have := HK2.1; have := HK3.1; omega
  case rel => exact ⟨(x4_3), (wrap64 (x26_1 + 1)), prs, H', ⟨by have := HK1.1; have := HK2.1; have := HK3.1; omega⟩, ⟨pks HO_4.1⟩, ⟨pbk BK148.1⟩, ⟨pbg⟩⟩
 rw [if_pos c41] at H
 have c41b0 : decide (x56_3 < (((rd_T48 l0_2 x26_1).f2).length : Int)) = true := decide_eq_true c41
 clear c41
 replace H := ifp H
 obtain ⟨c42, H⟩ := H
 have c42b0 := decide_eq_true c42
 clear c42
 replace H := ifp H
 obtain ⟨c43, H⟩ := H
 have c43b0 := decide_eq_true c43
 clear c43
 obtain ⟨ji44, hji44⟩ : ∃ j_ : Int, (wrap64 ((l0_1.length : Int) + x26_1)) = j_ := ⟨_, rfl⟩
 replace H : (if 0 ≤ (ji44) then (if (ji44) < (x4_3.length : Int) then (if (rd_L11 x4_3 (ji44)).length < 17592186044416 then (netclass_Flow.l2 k3 (l0_1.length : Int) (x4_3.set ((ji44) : Int).toNat ((rd_L11 x4_3 (ji44)) ++ [(rd_T55 ((rd_T48 l0_2 x26_1).f2) x56_3).f0])) x26_1 l0_2 (l0_2.length : Int) x26_1 ((rd_T48 l0_2 x26_1).f2) (((rd_T48 l0_2 x26_1).f2).length : Int) (wrap64 (x56_3 + 1))) else (none)) else (none)) else (none)) = some r := by first | (rw [hji44] at H; exact H) | (simp only [hji44] at H ⊢; exact H)
 have hji44w : (IntKind.i64.wrap ((l0_1.length : Int) + x26_1)) = ji44 := (i64_w _).trans hji44
 replace H := ifp H
 obtain ⟨c45, H⟩ := H
 have c45b0 := decide_eq_true c45
 clear c45
 replace H := ifp H
 obtain ⟨c46, H⟩ := H
 have c46b0 := decide_eq_true c46
 clear c46
 replace H := ifp H
 obtain ⟨c47, H⟩ := H
 have LMc47 := am c47
 clear c47
 obtain ⟨y165, hy165⟩ : ∃ y_ : List Int, y_ = ((rd_L11 x4_3 (ji44)) ++ [(rd_T55 ((rd_T48 l0_2 x26_1).f2) x56_3).f0]) := ⟨_, rfl⟩
 replace H : (netclass_Flow.l2 k3 (l0_1.length : Int) (x4_3.set ((ji44) : Int).toNat y165) x26_1 l0_2 (l0_2.length : Int) x26_1 ((rd_T48 l0_2 x26_1).f2) (((rd_T48 l0_2 x26_1).f2).length : Int) (wrap64 (x56_3 + 1))) = some r := hrp hy165 H
 have Ny165 := am hy165
 clear hy165
 obtain ⟨y168, hy168⟩ : ∃ y_ : List (List Int), y_ = (x4_3.set ((ji44) : Int).toNat y165) := ⟨_, rfl⟩
 replace H : (netclass_Flow.l2 k3 (l0_1.length : Int) y168 x26_1 l0_2 (l0_2.length : Int) x26_1 ((rd_T48 l0_2 x26_1).f2) (((rd_T48 l0_2 x26_1).f2).length : Int) (wrap64 (x56_3 + 1))) = some r := hrp hy168 H
 have Ny168 := am hy168
 clear hy168
 have H' := am H
 clear H
 obtain ⟨p162, q162, ad162, e162, hx162_0, hx162_1⟩ := bT55 HR153_2.1 HB.1 x56_3
 cases e162
 try go_wp2_with (first | ((with_reducible refine gate_dst (N := 10) rfl ?_); refine box_ev (N := 10) (cs := #[.int .i64 0, .int .i64 0]) (t := 55) ?_; intro gb163 hg w49 hbox hb; have BK163 := am hbox; have GW163 := gwb hg; have GE163 := GW163; have NB148_163 := nlt hg BK148; have NB163_148 := ngt hg BK148; have NB154_163 := nlt hg BK154; have NB163_154 := ngt hg BK154; replace HO_4 := sbw HO_4 hb; replace BK148 := bbh BK148 hb; replace BK154 := bbh BK154 hb; replace HB := bst hb; clear hb hbox hg; have hnb50 := NB163_148.1; have hnc50 := NB148_163.1; have hnb51 := NB163_154.1; have hnc51 := NB154_163.1; obtain ⟨z52_0, z52_1, y52_0, y52_1⟩ := cf2 BK163.1))
 have n0_ : Aside0 (Kd.S (Kd.slice 3 (Kd.int .i64)) 39 ((w49.setCell ⟨gb163, 0, none⟩ (.int .i64 ((rd_T55 ((rd_T48 l0_2 x26_1).f2) x56_3).f0))).setCell ⟨gb163, 1, none⟩ (.int .i64 ((rd_T55 ((rd_T48 l0_2 x26_1).f2) x56_3).f1))) w.heap.size (fun _ => True) v151 x4_3) := ⟨by (with_reducible repeat (first | apply Kd.S_alloc | apply Kd.S_drewN | apply Kd.S_drew)); exact Kd.S_mono (Kd.S_far (p := ⟨gb163, 1, none⟩) (Kd.S_far (p := ⟨gb163, 0, none⟩) (Kd.S_types HO_4.1 BK163.1 (by decide)) (fun _ hk => hk.2) (.int .i64 ((rd_T55 ((rd_T48 l0_2 x26_1).f2) x56_3).f0))) (fun _ hk => hk.2) (.int .i64 ((rd_T55 ((rd_T48 l0_2 x26_1).f2) x56_3).f1))) (fun _ hk => trivial)⟩
 have n1_ : Aside0 (((w49.setCell ⟨gb163, 0, none⟩ (.int .i64 ((rd_T55 ((rd_T48 l0_2 x26_1).f2) x56_3).f0))).setCell ⟨gb163, 1, none⟩ (.int .i64 ((rd_T55 ((rd_T48 l0_2 x26_1).f2) x56_3).f1))).heap[gb148]? = some (.cells #[.string a0_0, .slice A0_1 l0_1.length c0_1, .slice (some ad153) l0_2.length c0_2] 25 (0, 0))) := ⟨by (with_reducible repeat (first | refine blk_drewN ?_ _ | refine blk_drew ?_ | refine blk_alloc ?_ _)); refine bf2 ?_ NB148_163.1; exact pbk BK148.1⟩
 have n2_ : Aside0 (((w49.setCell ⟨gb163, 0, none⟩ (.int .i64 ((rd_T55 ((rd_T48 l0_2 x26_1).f2) x56_3).f0))).setCell ⟨gb163, 1, none⟩ (.int .i64 ((rd_T55 ((rd_T48 l0_2 x26_1).f2) x56_3).f1))).heap[gb154]? = some (.cells #[.string ((rd_T48 l0_2 x26_1).f0), .slice A153_1 ((rd_T48 l0_2 x26_1).f1).length c153_1, .slice (some ad162) ((rd_T48 l0_2 x26_1).f2).length c153_2, .slice A153_3 ((rd_T48 l0_2 x26_1).f3).length c153_3, .int .i64 ((rd_T48 l0_2 x26_1).f4)] 48 (0, 0))) := ⟨by (with_reducible repeat (first | refine blk_drewN ?_ _ | refine blk_drew ?_ | refine blk_alloc ?_ _)); refine bf2 ?_ NB154_163.1; exact pbk BK154.1⟩
 have n3_ : Aside0 (((w49.setCell ⟨gb163, 0, none⟩ (.int .i64 ((rd_T55 ((rd_T48 l0_2 x26_1).f2) x56_3).f0))).setCell ⟨gb163, 1, none⟩ (.int .i64 ((rd_T55 ((rd_T48 l0_2 x26_1).f2) x56_3).f1))).heap[gb163]? = some (.cells #[.int .i64 ((rd_T55 ((rd_T48 l0_2 x26_1).f2) x56_3).f0), .int .i64 ((rd_T55 ((rd_T48 l0_2 x26_1).f2) x56_3).f1)] 55 (0, 0))) := ⟨by (with_reducible repeat (first | refine blk_drewN ?_ _ | refine blk_drew ?_ | refine blk_alloc ?_ _)); exact bp2 (pbk BK163.1)⟩
 have n4_ : Aside0 (Below w.heap.size w ((w49.setCell ⟨gb163, 0, none⟩ (.int .i64 ((rd_T55 ((rd_T48 l0_2 x26_1).f2) x56_3).f0))).setCell ⟨gb163, 1, none⟩ (.int .i64 ((rd_T55 ((rd_T48 l0_2 x26_1).f2) x56_3).f1)))) := ⟨pbg⟩
 (try clear HO_4)
 (try clear BK148)
 (try clear BK154)
 (try clear BK163)
 (try clear HB)
 generalize ((w49.setCell ⟨gb163, 0, none⟩ (.int .i64 ((rd_T55 ((rd_T48 l0_2 x26_1).f2) x56_3).f0))).setCell ⟨gb163, 1, none⟩ (.int .i64 ((rd_T55 ((rd_T48 l0_2 x26_1).f2) x56_3).f1))) = w53 at n0_ n1_ n2_ n3_ n4_ ⊢
 have HO_4 := n0_
 have BK148 := n1_
 have BK154 := n2_
 have BK163 := n3_
 have HB := n4_
 clear n0_ n1_ n2_ n3_ n4_
 replace HO_4 := am (Kd.S_drew HO_4.1)
 replace BK148 := am (blk_drew BK148.1)
 replace BK154 := am (blk_drew BK154.1)
 replace BK163 := am (blk_drew BK163.1)
 replace HB := am (below_drew1 HB.1)
 obtain ⟨Ao55, co55, eo55⟩ := Kd.S_slice HO_4.1
 (first | subst eo55 | (injection eo55 with f1_ f2_ f3_; have f4_ := f1_.symm; have f5_ := f3_.symm; clear f1_ f2_ f3_; subst f4_; subst f5_))
 have p164 : 0 ≤ ((ji44) : Int) := dq
 have q164 : (ji44) < (x4_3.length : Int) := dq
 obtain ⟨ad164, A164_0, c164_0, e164, hx164_0, hl164_0, hi164_0⟩ := at_L11 (Kd.S_reads' HO_4.1).2.2 (ji44) p164 q164
 cases e164
 obtain ⟨ce164, hce164, hMe164, hcc164⟩ := Kd.S_get HO_4.1 [] (ji44) p164 (by first | exact q164 | exact dq | (have e_ := (Kd.S_reads' HO_4.1).1; omega))
 obtain ⟨ve164_0, rfl, ge164_0⟩ := hMe164
 have hv164_0 := hcc164 0 _ rfl
 rw [Nat.add_zero, show ((Kd.slice 3 (Kd.int .i64))).sz = 1 from rfl, Nat.mul_one] at hv164_0
 replace hv164_0 := Option.some.inj (hv164_0.symm.trans hx164_0)
 rw [hv164_0] at ge164_0
 have HL164_0 := am (show Kd.R (Kd.int .i64) 3 _ _ _ _ (rd_L11 x4_3 (ji44)) from ge164_0)
 clear hv164_0 ge164_0
 have HX164_0 := am hx164_0
 clear hcc164 hce164
 have HR164_0 := am hi164_0
 have HC164_0 := am hl164_0
 clear hi164_0 hl164_0
 replace p164 := eq_true p164
 replace q164 := eq_true q164
 obtain ⟨go56, co56, eo56, gb56, gl56, cl56, HG56⟩ := Kd.S_form HO_4.1 (by have h_ : ((ji44) : Int) < ((x4_3.length : Int) : Int) := dq; have h2_ : 0 ≤ ((ji44) : Int) := (dq); omega)
 (first | cases eo56 | (injection eo56 with ea_ en_ ec_; (first | subst ea_ | (injection ea_ with ea_; subst ea_)); subst ec_; clear en_))
 have GB56 := am gb56
 have GG56 := am HG56
 clear gb56 gl56 HG56
 (first | simp only [add_plain] at hx164_0 | skip)
 obtain ⟨oki56, ce56, hcl56, hM56, hcc56, _, _, hH56⟩ := Kd.S_elem HO_4.1 [] ((ji44) : Int) (dq) (by have h_ : ((ji44) : Int) < ((x4_3.length : Int) : Int) := dq; first | exact h_ | (have e_ := (Kd.S_reads' HO_4.1).1; omega) | simpa using h_)
 obtain ⟨ve56_0, rfl, ge56_0⟩ := hM56
 have hv56 := hcc56 0 _ rfl
 have hX56 := HX164_0.1
 (try simp only [add_plain] at hX56)
 (try simp only [Nat.add_zero] at hv56)
 (try rw [show ((Kd.slice 3 (Kd.int .i64))).sz = 1 from rfl, Nat.mul_one] at hv56)
 replace hv56 := Option.some.inj (hv56.symm.trans hX56)
 subst hv56
 clear hX56 hcc56 hcl56
 have UU56 := am (show Kd.R (Kd.int .i64) 3 _ w.heap.size oki56 (.slice A164_0 (rd_L11 x4_3 (ji44)).length c164_0) (rd_L11 x4_3 (ji44)) from ge56_0)
 have HH56 := am hH56
 have HN56 := am (Kd.S_reads' HO_4.1).1
 clear hH56 ge56_0
 refine start_ (n := 16) (S := fun w' => w'.cell? ⟨gb163, 0, none⟩ = some (.int .i64 ((rd_T55 ((rd_T48 l0_2 x26_1).f2) x56_3).f0)) ∧ w'.cell? ⟨gb163, 1, none⟩ = some (.int .i64 ((rd_T55 ((rd_T48 l0_2 x26_1).f2) x56_3).f1)) ∧ w'.cell? ⟨go56, ((ji44)).toNat, none⟩ = some (.slice A164_0 (rd_L11 x4_3 (ji44)).length c164_0)) (ds := [15]) #[false, false, false, false, false, false, false, false, false, false, false, false, false, false, false, false] (by kernel_rfl) rfl rfl ⟨(blk_cell BK163.1 0).trans rfl, (blk_cell BK163.1 1).trans rfl, hx164_0⟩ (fun hHeld => ?_); refine with_tabW netclass_Flow.tab16 netclass_Flow.bits16 (fun HT_ HW_ => ?_)
 generalize w53.drew = w54 at HO_4 BK148 BK154 BK163 HB GG56 HH56 HL164_0 HR164_0 HX164_0 UU56 hx164_0 hHeld ⊢
 refine pure_ (i := 0) (N := some 60) (v := ?_) (a' := ?_) #[true, false, false, false, false, false, false, false, false, false, false, false, false, false, false, false] rfl rfl (any_of HT_.1 (by kernel_rfl)) (fun _ _ _ h => h) (Or.inl ⟨by rfl, ?_⟩) ?_ ?_
 rotate_left
 ·intro w'
  go_simp
  with_reducible rfl
 rotate_left
 ·simp only [Act.put, List.setIfInBounds_toArray, List.set_cons_zero, List.set_cons_succ, i64_w, i32_w]
  rfl
 refine pure_ (i := 1) (N := some 61) (v := ?_) (a' := ?_) #[true, true, false, false, false, false, false, false, false, false, false, false, false, false, false, false] rfl rfl (any_of HT_.1 (by kernel_rfl)) (fun _ _ _ h => h) (Or.inl ⟨by rfl, ?_⟩) ?_ ?_
 rotate_left
 ·intro w'
  go_simp
  with_reducible rfl
 rotate_left
 ·simp only [Act.put, List.setIfInBounds_toArray, List.set_cons_zero, List.set_cons_succ, i64_w, i32_w]
  rfl
 refine pure_ (i := 2) (N := some 62) (v := ?_) (a' := ?_) #[true, true, true, false, false, false, false, false, false, false, false, false, false, false, false, false] rfl rfl (any_of HT_.1 (by kernel_rfl)) (fun _ _ _ h => h) (Or.inl ⟨by rfl, ?_⟩) ?_ ?_
 rotate_left
 ·intro w'
  go_simp
  with_reducible rfl
 rotate_left
 ·simp only [Act.put, List.setIfInBounds_toArray, List.set_cons_zero, List.set_cons_succ, i64_w, i32_w]
  rfl
 refine pure_ (i := 3) (N := some 63) (v := ?_) (a' := ?_) #[true, true, true, true, false, false, false, false, false, false, false, false, false, false, false, false] rfl rfl (any_of HT_.1 (by kernel_rfl)) (fun _ _ _ h => h) (Or.inl ⟨by rfl, ?_⟩) ?_ ?_
 rotate_left
 ·intro w'
  go_simp
  with_reducible rfl
 rotate_left
 ·simp only [Act.put, List.setIfInBounds_toArray, List.set_cons_zero, List.set_cons_succ, i64_w, i32_w]
  rfl
 refine pure_ (i := 4) (N := some 64) (v := ?_) (a' := ?_) #[true, true, true, true, true, false, false, false, false, false, false, false, false, false, false, false] rfl rfl (any_of HT_.1 (by kernel_rfl)) (fun _ _ _ h => h) (Or.inl ⟨by rfl, ?_⟩) ?_ ?_
 rotate_left
 ·intro w'
  go_simp
  with_reducible rfl
 rotate_left
 ·simp only [Act.put, List.setIfInBounds_toArray, List.set_cons_zero, List.set_cons_succ, i64_w, i32_w]
  rfl
 refine pure_ (i := 5) (N := some 65) (v := ?_) (a' := ?_) #[true, true, true, true, true, true, false, false, false, false, false, false, false, false, false, false] rfl rfl (any_of HT_.1 (by kernel_rfl)) (fun _ _ _ h => h) (Or.inl ⟨by rfl, ?_⟩) ?_ ?_
 rotate_left
 ·intro w'
  go_simp
  with_reducible rfl
 rotate_left
 ·simp only [Act.put, List.setIfInBounds_toArray, List.set_cons_zero, List.set_cons_succ, i64_w, i32_w]
  rfl
 refine pure_ (i := 6) (N := some 66) (v := ?_) (a' := ?_) #[true, true, true, true, true, true, true, false, false, false, false, false, false, false, false, false] rfl rfl (any_of HT_.1 (by kernel_rfl)) (fun _ _ _ h => h) (Or.inl ⟨by rfl, ?_⟩) ?_ ?_
 rotate_left
 ·intro w'
  go_simp
  with_reducible rfl
 rotate_left
 ·simp only [Act.put, List.setIfInBounds_toArray, List.set_cons_zero, List.set_cons_succ, i64_w, i32_w]
  rfl
 refine pure_ (i := 7) (N := some 67) (v := ?_) (a' := ?_) #[true, true, true, true, true, true, true, true, false, false, false, false, false, false, false, false] rfl rfl (any_of HT_.1 (by kernel_rfl)) (fun _ _ _ h => h) (Or.inl ⟨by rfl, ?_⟩) ?_ ?_
 rotate_left
 ·intro w'
  go_simp
  with_reducible rfl
 rotate_left
 ·simp only [Act.put, List.setIfInBounds_toArray, List.set_cons_zero, List.set_cons_succ, i64_w, i32_w]
  rfl
 refine pure_ (i := 8) (N := some 68) (v := ?_) (a' := ?_) #[true, true, true, true, true, true, true, true, true, false, false, false, false, false, false, false] rfl rfl (any_of HT_.1 (by kernel_rfl)) (fun _ _ _ h => h) (Or.inl ⟨by rfl, ?_⟩) ?_ ?_
 rotate_left
 ·intro w'
  go_simp
  with_reducible rfl
 rotate_left
 ·simp only [Act.put, List.setIfInBounds_toArray, List.set_cons_zero, List.set_cons_succ, i64_w, i32_w]
  rfl
 refine pure_ (i := 10) (N := some 70) (v := ?_) (a' := ?_) #[true, true, true, true, true, true, true, true, true, false, true, false, false, false, false, false] rfl rfl (any_of HT_.1 (by kernel_rfl)) (fun _ _ _ h => h) (Or.inl ⟨by rfl, ?_⟩) ?_ ?_
 rotate_left
 ·intro w'
  go_simp
  with_reducible rfl
 rotate_left
 ·simp only [Act.put, List.setIfInBounds_toArray, List.set_cons_zero, List.set_cons_succ, i64_w, i32_w]
  rfl
 refine take_ (i := 9) (N := some 69) (v := ?_) (a' := ?_) #[true, true, true, true, true, true, true, true, true, true, true, false, false, false, false, false] rfl rfl (take_ofW HT_.1 HW_.1 (by kernel_rfl)) (fun _ _ _ h => h) (Or.inl ⟨by rfl, ?_⟩) hHeld ?_ ?_
 rotate_left
 ·rintro w' ⟨s0, s1, s2⟩
  go_simp
  with_reducible rfl
 rotate_left
 ·simp only [Act.put, List.setIfInBounds_toArray, List.set_cons_zero, List.set_cons_succ, i64_w, i32_w]
  rfl
 refine take_ (i := 11) (N := some 71) (v := ?_) (a' := ?_) #[true, true, true, true, true, true, true, true, true, true, true, true, false, false, false, false] rfl rfl (take_ofW HT_.1 HW_.1 (by kernel_rfl)) (fun _ _ _ h => h) (Or.inl ⟨by rfl, ?_⟩) hHeld ?_ ?_
 rotate_left
 ·rintro w' ⟨s0, s1, s2⟩
  go_simp
  with_reducible rfl
 rotate_left
 ·simp only [Act.put, List.setIfInBounds_toArray, List.set_cons_zero, List.set_cons_succ, i64_w, i32_w]
  rfl
 refine one_ (i := 12) (N := some 72) #[true, true, true, true, true, true, true, true, true, true, true, true, true, false, false, false] rfl rfl (one_of HT_.1 (by kernel_rfl)) (by decide) (fun K hK => ?_)
 refine value_ (w1 := ?_) (v := ?_) (by rfl) rfl ?_ ?_
 rotate_left 2
 ·go_simp
  constructor
  ·rfl
  ·rfl
 refine hK.out _ _ ⟨(blk_cell (blk_alloc BK163.1 _) 0).trans rfl, (blk_cell (blk_alloc BK163.1 _) 1).trans rfl, (World.cell?_alloc_lt _ _ _ (World.block_lt_of_cell? _ _ (hHeld.2.2))).trans (hHeld.2.2)⟩ (fun hHeld => ?_)
 clear hK K
 refine norm_ (a' := ?_) ?_ ?_
 rotate_left
 ·show Act.put _ (some 72) _ = _
  simp only [Act.put, List.setIfInBounds_toArray, List.set_cons_zero, List.set_cons_succ, i64_w, i32_w]
  rfl
 refine one_ (i := 13) (N := some 73) #[true, true, true, true, true, true, true, true, true, true, true, true, true, true, false, false] rfl rfl (one_of HT_.1 (by kernel_rfl)) (by decide) (fun K hK => ?_)
 refine Kd.R_append_step (Kd.int .i64) (w0 := w) w.heap.size (by rfl) (.tmp 69) (.tmp 72) 39 3 (.int .i64 0) 8 rfl Try.underlying39 info3 rfl (by decide) (by omega) (.slice A164_0 (rd_L11 x4_3 (ji44)).length c164_0) (rd_L11 x4_3 (ji44)) ((rd_T55 ((rd_T48 l0_2 x26_1).f2) x56_3).f0) [.int .i64 ((rd_T55 ((rd_T48 l0_2 x26_1).f2) x56_3).f0)] (fun k_ => oki56 k_ ∨ ((fun _ => True)) k_ ∧ w54.heap.size ≤ k_) (fun _ => False) rfl rfl ?aP (fun _ hk => hk.elim) ?aF ?aO ?aB ?aS ?aL ?_
 (case aP => exact rfl)
 (case aB => exact pbg)
 (case aF => exact (fun k_ hk => .inr ⟨trivial, hk⟩))
 (case aO => exact (by (with_reducible repeat (first | apply Kd.R_alloc | apply Kd.R_drewN | apply Kd.R_drew)); exact Kd.R_mono UU56.1 (fun _ hk => .inl hk)))
 (case aS => exact (below_size pbg))
 (case aL => have := LMc47.1; omega)
 intro v166 w57 ho hb hg hat
 (first | have HS2_ := cell_grown hg (hHeld.2.2) (by first | (rw [add_block]; exact (fun e_ => ((HL164_0.1.1 _ e_.symm).2) rfl)) | (show some (Addr.add _ _).block ≠ _; rw [add_block]; exact (fun e_ => ((HL164_0.1.1 _ e_.symm).2) rfl)) | exact (fun e_ => ((HL164_0.1.1 _ e_.symm).2) rfl)) | have HS2_ := cell_grown hg (cell_unalloc (hHeld.2.2) (by first | (rw [add_block]; exact Kd.S_lt HO_4.1 _ rfl) | (show (Addr.add _ _).block < _; rw [add_block]; exact Kd.S_lt HO_4.1 _ rfl) | exact Kd.S_lt HO_4.1 _ rfl)) (by first | (rw [add_block]; exact (fun e_ => ((HL164_0.1.1 _ e_.symm).2) rfl)) | (show some (Addr.add _ _).block ≠ _; rw [add_block]; exact (fun e_ => ((HL164_0.1.1 _ e_.symm).2) rfl)) | exact (fun e_ => ((HL164_0.1.1 _ e_.symm).2) rfl)))
 rw [← Ny165.1] at ho
 have n0_ := am (blk_grown (g := gb148) (o := .cells #[.string a0_0, .slice A0_1 l0_1.length c0_1, .slice (some ad153) l0_2.length c0_2] 25 (0, 0)) (by exact pbk BK148.1) hg (Kd.R_ne HL164_0.1 BK148.1 (by decide)))
 have n1_ := am (blk_grown (g := gb154) (o := .cells #[.string ((rd_T48 l0_2 x26_1).f0), .slice A153_1 ((rd_T48 l0_2 x26_1).f1).length c153_1, .slice (some ad162) ((rd_T48 l0_2 x26_1).f2).length c153_2, .slice A153_3 ((rd_T48 l0_2 x26_1).f3).length c153_3, .int .i64 ((rd_T48 l0_2 x26_1).f4)] 48 (0, 0)) (by exact pbk BK154.1) hg (Kd.R_ne HL164_0.1 BK154.1 (by decide)))
 have n2_ := am (blk_grown (g := gb163) (o := .cells #[.int .i64 ((rd_T55 ((rd_T48 l0_2 x26_1).f2) x56_3).f0), .int .i64 ((rd_T55 ((rd_T48 l0_2 x26_1).f2) x56_3).f1)] 55 (0, 0)) (by exact pbk BK163.1) hg (Kd.R_ne HL164_0.1 BK163.1 (by decide)))
 have n3_ := am hb
 have n4_ := am (Kd.H_grown (Kd.H_widen (by repeat (first | exact HH56.1 | refine Kd.H_alloc ?_ _ | refine Kd.H_drewN ?_ _ | refine Kd.H_drew ?_))) hg (fun k_ e_ => .inl (UU56.1.1 k_ e_)))
 have n5_ := am ho
 clear BK148 BK154 BK163 HB HH56 HO_4 UU56 HL164_0
 have BK148 := n0_
 have BK154 := n1_
 have BK163 := n2_
 have HB := n3_
 have HH56 := n4_
 have HO167 := n5_
 clear n0_ n1_ n2_ n3_ n4_ n5_ ho hb hg hat
 have p48 : 0 ≤ ((ji44) : Int) := dq
 have q48 : ((ji44) : Int) < ((x4_3.length : Int) : Int) := dq
 replace p48 := eq_true p48
 replace q48 := eq_true q48
 obtain ⟨Ao60, co60, eo60⟩ := Kd.R_slice HO167.1
 (first | subst eo60 | (injection eo60 with f1_ f2_ f3_; have f4_ := f1_.symm; have f5_ := f3_.symm; clear f1_ f2_ f3_; subst f4_; subst f5_))
 obtain ⟨_, _, hraw58, _, _, hcc58, _⟩ := Kd.H_raw HH56.1 (dq) (by have h_ : ((ji44) : Int) < ((x4_3.length : Int) : Int) := dq; first | exact h_ | (have e_ := (HN56.1); omega) | simpa using h_)
 obtain ⟨_, hfr58⟩ := Kd.H_at HH56.1 (dq) (by have h_ : ((ji44) : Int) < ((x4_3.length : Int) : Int) := dq; first | exact h_ | (have e_ := (HN56.1); omega) | simpa using h_)
 have hx58_0 := hcc58 0 _ rfl
 have hf58_0 := hfr58 0
 (try simp only [Nat.add_zero] at hx58_0 hf58_0)
 (try rw [show ((Kd.slice 3 (Kd.int .i64))).sz = 1 from rfl, Nat.mul_one] at hx58_0)
 (try rw [show ((Kd.slice 3 (Kd.int .i64))).sz = 1 from rfl, Nat.mul_one] at hf58_0)
 have HP58 := Kd.S_seg0 HH56.1 (dq) (by have h_ : ((ji44) : Int) < ((x4_3.length : Int) : Int) := dq; first | exact h_ | (have e_ := (HN56.1); omega) | simpa using h_) (seg := [.slice Ao60 y165.length co60]) (j := 0) (show 1 ≤ 1 from by decide) (x' := y165) (Kd.M_row HO167.1) (fun _ hk => hk)
 (try simp only [show ((Kd.slice 3 (Kd.int .i64))).sz = 1 from rfl, Nat.mul_one, Nat.add_zero] at HP58)
 clear hcc58 hfr58
 have HNB148_go56 := am (show gb148 ≠ go56 from by have h_ := Kd.R_ne hraw58 BK148.1 (by decide); intro e_; exact h_ (by rw [e_]; rfl))
 have HNB154_go56 := am (show gb154 ≠ go56 from by have h_ := Kd.R_ne hraw58 BK154.1 (by decide); intro e_; exact h_ (by rw [e_]; rfl))
 have HNB163_go56 := am (show gb163 ≠ go56 from by have h_ := Kd.R_ne hraw58 BK163.1 (by decide); intro e_; exact h_ (by rw [e_]; rfl))
 have HS58 := HP58.1
 rw [← Ny168.1] at HS58
 have HQ58 := am HS58
 obtain ⟨_, hgg58⟩ := Kd.R_typed hraw58 go56 rfl
 have GG58_ := am hgg58
 clear HP58 HS58 hgg58
 refine hK.out _ _ ⟨(blk_cell BK163.1 0).trans rfl, (blk_cell BK163.1 1).trans rfl, HS2_⟩ (fun hHeld => ?_)
 clear hK K
 refine norm_ (a' := ?_) ?_ ?_
 rotate_left
 ·show Act.put _ (some 73) _ = _
  simp only [Act.put, List.setIfInBounds_toArray, List.set_cons_zero, List.set_cons_succ, i64_w, i32_w]
  rfl
 refine pure_ (i := 14) (N := some 74) (v := ?_) (a' := ?_) #[true, true, true, true, true, true, true, true, true, true, true, true, true, true, true, false] rfl rfl (any_of HT_.1 (by kernel_rfl)) (fun _ _ _ h => h) (Or.inl ⟨by rfl, ?_⟩) ?_ ?_
 rotate_left
 ·intro w'
  go_simp
  with_reducible rfl
 rotate_left
 ·simp only [Act.put, List.setIfInBounds_toArray, List.set_cons_zero, List.set_cons_succ, i64_w, i32_w]
  rfl
 refine last_ (i := 15) (N := none) #[true, true, true, true, true, true, true, true, true, true, true, true, true, true, true, true] rfl rfl (one_of HT_.1 (by kernel_rfl)) (by decide) (fun K hK => ?_)
 refine skip_ (w1 := ?_) (by rfl) rfl ?_ ?_
 rotate_left
 ·go_simp
  rfl
 refine hK.out _ _ ?_
 clear hK K
 refine done_ (done_of HT_.1 (by kernel_rfl)) ?_
 try go_wp2
 go_roundg k3
 case measure => have := HK1.1; have := HK2.1; have := HK3.1; omega
 case rel => exact ⟨(y168), (wrap64 (x56_3 + 1)), prs, H', ⟨by have := HK1.1; have := HK2.1; have := HK3.1; omega⟩, ⟨pks HQ58.1⟩, ⟨by (with_reducible repeat (first | refine blk_drewN ?_ _ | refine blk_drew ?_ | refine blk_alloc ?_ _)); refine blk_far ?_ HNB148_go56.1 _; exact pbk BK148.1⟩, ⟨by (with_reducible repeat (first | refine blk_drewN ?_ _ | refine blk_drew ?_ | refine blk_alloc ?_ _)); refine blk_far ?_ HNB154_go56.1 _; exact pbk BK154.1⟩, ⟨pbg⟩⟩

/-! ### workflow_onPath: function 40 -/
def workflow_onPath.l0 : Nat → List Bool → List Bool → Int → Int → Option (List Bool)
 | 0, _, _, _, _ => none
 | k + 1, x8, x21, x22, x23 => if x23 < x22 then (if 0 ≤ x23 then (if x23 < (x21.length : Int) then (if x23 < (x8.length : Int) then (if rdOf false x8 x23 = true then (workflow_onPath.l0 k (x8.set (x23 : Int).toNat (rdOf false x21 x23)) x21 x22 (wrap64 (x23 + 1))) else (workflow_onPath.l0 k (x8.set (x23 : Int).toNat false) x21 x22 (wrap64 (x23 + 1)))) else (none)) else (none)) else (none)) else (some x8)
def workflow_onPath.f (k : Nat) (a0_0 : ByteArray) (l0_1 : List (S52)) (l0_2 : List (S48)) (a1 : Int) (a2 : Int) : Option (List Bool) := (netclass_Flow.f k a0_0 l0_1 l0_2).bind fun t189 => ((digraph_Reach.f k t189 (([a1] : List Int))).bind fun t195 => ((digraph_Reverse.f k t189).bind fun t198 => ((digraph_Reach.f k t198 (([a2] : List Int))).bind fun t204 => (workflow_onPath.l0 k t195 t204 (t204.length : Int) 0))))
theorem workflow_onPath.mono_l : ∀ k, M4 workflow_onPath.l0 k
 | 0 => fun _ _ _ _ r h => by simp [workflow_onPath.l0] at h
 | k + 1 => by
  have ih0 := workflow_onPath.mono_l k
  ·intro y0 y1 y2 y3
   unfold workflow_onPath.l0
   repeat' first | (with_reducible first | apply ih0 | apply digraph_Reach.mono | apply digraph_Reverse.mono | apply netclass_Flow.mono | apply lr | apply ln | apply li | refine lb ?_ fun _ => ?_)
theorem workflow_onPath.mono : ∀ a0 a1 a2 a3 a4 k, LeO (workflow_onPath.f k a0 a1 a2 a3 a4) (workflow_onPath.f (k + 1) a0 a1 a2 a3 a4) := by
 intro a0 a1 a2 a3 a4 k
 have ih0 := workflow_onPath.mono_l k
 unfold workflow_onPath.f
 repeat' first | (with_reducible first | apply ih0 | apply digraph_Reach.mono | apply digraph_Reverse.mono | apply netclass_Flow.mono | apply lr | apply ln | apply li | refine lb ?_ fun _ => ?_)
set_option maxHeartbeats 8000000 in
set_option maxRecDepth 100000 in
theorem workflow_onPath.calls (k : Nat) (a0_0 : ByteArray) (A0_1 : Option Addr) (c0_1 : Nat) (l0_1 : List (S52)) (A0_2 : Option Addr) (c0_2 : Nat) (l0_2 : List (S48)) (a1 : Int) (a2 : Int) (r : List Bool) (w : World) (hr0_1 : Kd.C k52 w A0_1 l0_1.length l0_1) (hc0_1 : l0_1.length ≤ c0_1) (hr0_2 : Kd.C k48 w A0_2 l0_2.length l0_2) (hc0_2 : l0_2.length ≤ c0_2) (h : workflow_onPath.f k a0_0 l0_1 l0_2 a1 a2 = some r) :
  Calls Try.prog 40 #[.agg #[.string a0_0, .slice A0_1 l0_1.length c0_1, .slice A0_2 l0_2.length c0_2], .int .i64 a1, .int .i64 a2] w fun e w' => ∃ v0_ : Value, e = .returned (v0_) ∧ Kd.R Kd.bool 4 w' w.heap.size (fun _ => True) v0_ r ∧ Below w.heap.size w w' := by
 have hu25 := Try.underlying25
 have HR0_1 := am hr0_1
 have HC0_1 := am hc0_1
 clear hr0_1 hc0_1
 have HR0_2 := am hr0_2
 have HC0_2 := am hc0_2
 clear hr0_2 hc0_2
 have HB := am (Below.refl w.heap.size w)
 have H : ((netclass_Flow.f k a0_0 l0_1 l0_2).bind fun t189 => ((digraph_Reach.f k t189 (([a1] : List Int))).bind fun t195 => ((digraph_Reverse.f k t189).bind fun t198 => ((digraph_Reach.f k t198 (([a2] : List Int))).bind fun t204 => (workflow_onPath.l0 k t195 t204 (t204.length : Int) 0))))) = some r := h
 clear h
 replace H := bnd H
 obtain ⟨t189, A4, H⟩ := H
 (try dsimp only at H)
 obtain ⟨y192, hy192⟩ : ∃ y_ : List Int, y_ = (([a1] : List Int)) := ⟨_, rfl⟩
 replace H : ((digraph_Reach.f k t189 y192).bind fun t195 => ((digraph_Reverse.f k t189).bind fun t198 => ((digraph_Reach.f k t198 (([a2] : List Int))).bind fun t204 => (workflow_onPath.l0 k t195 t204 (t204.length : Int) 0)))) = some r := hrp hy192 H
 have Ny192 := am hy192
 clear hy192
 replace H := bnd H
 obtain ⟨t195, A5, H⟩ := H
 (try dsimp only at H)
 replace H := bnd H
 obtain ⟨t198, A6, H⟩ := H
 (try dsimp only at H)
 obtain ⟨y201, hy201⟩ : ∃ y_ : List Int, y_ = (([a2] : List Int)) := ⟨_, rfl⟩
 replace H : ((digraph_Reach.f k t198 y201).bind fun t204 => (workflow_onPath.l0 k t195 t204 (t204.length : Int) 0)) = some r := hrp hy201 H
 have Ny201 := am hy201
 clear hy201
 replace H := bnd H
 obtain ⟨t204, A7, H⟩ := H
 (try dsimp only at H)
 have H' := am H
 clear H
 go_enter Try.func40, Try.ntmps40
 go_wp2_with (first | ((with_reducible refine gate_dst (N := 3) rfl ?_); refine box_ev (N := 3) (cs := #[.string a0_0, .slice A0_1 l0_1.length c0_1, .slice A0_2 l0_2.length c0_2]) (t := 25) ?_; intro gb188 hg w8 hbox hb; have BK188 := am hbox; have GW188 := gwl hg; have GE188 := GW188; replace HB := bsl hb; clear hb hbox hg; obtain ⟨z9_0, z9_1, z9_2, y9_0, y9_1, y9_2⟩ := cf3 BK188.1) | ((with_reducible refine gate_callee (f := 55) rfl ?_); refine gC 12 Try.func55 _ (netclass_Flow.calls k a0_0 _ _ l0_1 _ _ l0_2 t189 _ (csb HR0_1 HB) HC0_1.1 (csb HR0_2 HB) HC0_2.1 A4.1) ?_; rintro e w10 ⟨v190, rfl, ho0, hb⟩; refine ⟨_, rfl, ?_⟩; have HO191 := am (Kd.S_lower ho0 (below_size pbg)); replace BK188 := bbh BK188 hb; replace HB := bst hb; (try clear hb); (try clear ho0)) | ((with_reducible refine gate_dst (N := 15) rfl ?_); refine Kd.R_lit (Kd.int .i64) _ 3 ?hg (N := 15) ?hd (xs := ([a1] : List Int)) (inner := [.int .i64 a1]) (ok := fun _ => True) (okp := fun _ => True) ?hr ?hp (fun _ hk => hk) trivial (Below.refl _ _) (Nat.le_refl _) (by simp) ?_; (case hd => rfl); (case hg => rfl); (case hr => first | (go_simp; done) | (go_simp; rfl)); (case hp => exact (Reps.one (show Kd.M (Kd.int .i64) _ _ _ a1 [.int .i64 a1] from rfl) (Reps.none _ _))); intro v193 w11 ho12 hb hg_ hnew_; clear hg_ hnew_; (first | rw [← Ny192.1] at ho12 | (simp only [Int.reduceToNat] at ho12; rw [← Ny192.1] at ho12)); have HO194 := am (Kd.R_lower ho12 (below_size pbg)); replace HO191 := am (Kd.S_elder' (pks HO191.1) (Kd.R_base ho12) hb); replace BK188 := bbh BK188 hb; replace HB := bst hb; clear hb ho12; obtain ⟨Ao13, co13, eo13⟩ := Kd.S_slice HO191.1; subst eo13; obtain ⟨Ao14, co14, eo14⟩ := Kd.R_slice HO194.1; subst eo14) | ((with_reducible refine gate_callee (f := 63) rfl ?_); refine gC 16 Try.func63 _ (digraph_Reach.calls k _ _ t189 _ _ y192 t195 _ (csd ((Kd.S_reads' HO191.1).2.2)) ((Kd.S_reads' HO191.1).2.1) (csd ((Kd.R_reads' HO194.1).2.2)) ((Kd.R_reads' HO194.1).2.1) A5.1) ?_; rintro e w15 ⟨v196, rfl, ho0, hb⟩; refine ⟨_, rfl, ?_⟩; have HO197 := am (Kd.R_lower ho0 (below_size pbg)); replace HO191 := sbw HO191 hb; replace HO194 := rbw HO194 hb; replace BK188 := bbh BK188 hb; replace HB := bst hb; (try clear hb); (try clear ho0)) | ((with_reducible refine gate_callee (f := 64) rfl ?_); refine gC 18 Try.func64 _ (digraph_Reverse.calls k _ _ t189 t198 _ (csd ((Kd.S_reads' HO191.1).2.2)) ((Kd.S_reads' HO191.1).2.1) A6.1) ?_; rintro e w16 ⟨v199, rfl, ho0, hb⟩; refine ⟨_, rfl, ?_⟩; have HO200 := am (Kd.S_lower (Kd.S_new' (Kd.S_new' ho0 (Kd.S_lt (pks HO191.1))) (Kd.R_lt (pkr HO194.1))) (below_size pbg)); replace HO191 := am (Kd.S_elder' (pks HO191.1) (Kd.S_base ho0) hb); replace HO194 := rbw HO194 hb; replace HO197 := rbw HO197 hb; replace BK188 := bbh BK188 hb; replace HB := bst hb; (try clear hb); (try clear ho0)) | ((with_reducible refine gate_dst (N := 20) rfl ?_); refine Kd.R_lit (Kd.int .i64) _ 3 ?hg (N := 20) ?hd (xs := ([a2] : List Int)) (inner := [.int .i64 a2]) (ok := fun _ => True) (okp := fun _ => True) ?hr ?hp (fun _ hk => hk) trivial (Below.refl _ _) (Nat.le_refl _) (by simp) ?_; (case hd => rfl); (case hg => rfl); (case hr => first | (go_simp; done) | (go_simp; rfl)); (case hp => exact (Reps.one (show Kd.M (Kd.int .i64) _ _ _ a2 [.int .i64 a2] from rfl) (Reps.none _ _))); intro v202 w17 ho18 hb hg_ hnew_; clear hg_ hnew_; (first | rw [← Ny201.1] at ho18 | (simp only [Int.reduceToNat] at ho18; rw [← Ny201.1] at ho18)); have HO203 := am (Kd.R_lower (Kd.R_new' ho18 (Kd.R_lt (pkr HO194.1))) (below_size pbg)); replace HO191 := am (Kd.S_elder' (pks HO191.1) (Kd.R_base ho18) hb); replace HO194 := am (Kd.R_elder' (pkr HO194.1) (Kd.R_base ho18) hb); replace HO197 := rbw HO197 hb; replace HO200 := am (Kd.S_elder' (pks HO200.1) (Kd.R_base ho18) hb); replace BK188 := bbh BK188 hb; replace HB := bst hb; clear hb ho18; obtain ⟨Ao19, co19, eo19⟩ := Kd.S_slice HO200.1; subst eo19; obtain ⟨Ao20, co20, eo20⟩ := Kd.R_slice HO203.1; subst eo20) | ((with_reducible refine gate_callee (f := 63) rfl ?_); refine gC 21 Try.func63 _ (digraph_Reach.calls k _ _ t198 _ _ y201 t204 _ (csd ((Kd.S_reads' HO200.1).2.2)) ((Kd.S_reads' HO200.1).2.1) (csd ((Kd.R_reads' HO203.1).2.2)) ((Kd.R_reads' HO203.1).2.1) A7.1) ?_; rintro e w21 ⟨v205, rfl, ho0, hb⟩; refine ⟨_, rfl, ?_⟩; have HO206 := am (Kd.R_lower (Kd.R_new' ho0 (Kd.R_lt (pkr HO197.1))) (below_size pbg)); replace HO191 := sbw HO191 hb; replace HO194 := rbw HO194 hb; replace HO197 := am (Kd.R_elder' (pkr HO197.1) (Kd.R_base ho0) hb); replace HO200 := sbw HO200 hb; replace HO203 := rbw HO203 hb; replace BK188 := bbh BK188 hb; replace HB := bst hb; (try clear hb); (try clear ho0); obtain ⟨Ao22, co22, eo22⟩ := Kd.R_slice HO206.1; subst eo22))
 go_loopg [23] k (fun kq v23 w' => ∃ (x8_1 : List Bool) (x23_1 : Int), v23 = .int .i64 x23_1 ∧ Aside0 (workflow_onPath.l0 kq x8_1 t204 (t204.length : Int) x23_1 = some r) ∧ Aside0 (kq ≤ k) ∧ Aside0 (Kd.R Kd.bool 4 w' w.heap.size (fun k_ => some k_ ≠ ((.slice Ao22 t204.length co22) : Value).ownBlock) v196 x8_1) ∧ Aside0 (Kd.R Kd.bool 4 w' w.heap.size (fun k_ => some k_ ≠ (v196 : Value).ownBlock) (.slice Ao22 t204.length co22) t204) ∧ Aside0 (w'.heap[gb188]? = some (.cells #[.string a0_0, (.slice A0_1 l0_1.length c0_1), (.slice A0_2 l0_2.length c0_2)] 25 (0, 0))) ∧ Aside0 (Below w.heap.size w w'))
 case atStart => exact ⟨(t195), (0), prs, H', ⟨Nat.le_refl _⟩, ⟨by (with_reducible repeat (first | apply Kd.R_alloc | apply Kd.R_drewN | apply Kd.R_drew)); exact Kd.R_mono HO197.1 (fun _ hk => hk.2)⟩, ⟨by (with_reducible repeat (first | apply Kd.R_alloc | apply Kd.R_drewN | apply Kd.R_drew)); exact Kd.R_mono HO206.1 (fun _ hk => hk.2)⟩, ⟨pbk BK188.1⟩, ⟨pbg⟩⟩
 clear H'
 try clear z9_0 z9_1 z9_2 y9_0 y9_1 y9_2
 obtain ⟨x8_1, x23_1, rfl, HA, HK1, HO_8, HO_21, BK188, HB⟩ := hrel
 obtain _ | k1 := gk
 ·exact absurd HA.1 (by simp [workflow_onPath.l0])
 have H := HA.1
 clear HA
 simp only [workflow_onPath.l0] at H
 by_cases c23 : x23_1 < (t204.length : Int)
 rotate_left
 ·rw [if_neg c23] at H
  have c23b0 : decide (x23_1 < (t204.length : Int)) = false := decide_eq_false c23
  clear c23
  obtain rfl := Option.some.inj H
  go_wp2
  go_ret
  exact ⟨_, per, by (with_reducible repeat (first | apply Kd.R_alloc | apply Kd.R_drewN | apply Kd.R_drew)); exact Kd.R_mono HO_8.1 (fun _ hk => trivial), pbg⟩
 rw [if_pos c23] at H
 have c23b0 : decide (x23_1 < (t204.length : Int)) = true := decide_eq_true c23
 clear c23
 replace H := ifp H
 obtain ⟨c24, H⟩ := H
 have c24b0 := decide_eq_true c24
 clear c24
 replace H := ifp H
 obtain ⟨c25, H⟩ := H
 have c25b0 := decide_eq_true c25
 clear c25
 replace H := ifp H
 obtain ⟨c26, H⟩ := H
 have c26b0 := decide_eq_true c26
 clear c26
 obtain ⟨bq27, hbq27⟩ : ∃ b_ : Bool, b_ = (rdOf false x8_1 x23_1) := ⟨_, rfl⟩
 replace H : (if bq27 = true then (workflow_onPath.l0 k1 (x8_1.set (x23_1 : Int).toNat (rdOf false t204 x23_1)) t204 (t204.length : Int) (wrap64 (x23_1 + 1))) else (workflow_onPath.l0 k1 (x8_1.set (x23_1 : Int).toNat false) t204 (t204.length : Int) (wrap64 (x23_1 + 1)))) = some r := by rw [← hbq27] at H; exact H
 have Nbq27 := am hbq27
 clear hbq27
 by_cases c28 : bq27 = true
 ·subst c28
  rw [if_pos rfl] at H
  obtain ⟨y209, hy209⟩ : ∃ y_ : List Bool, y_ = (x8_1.set (x23_1 : Int).toNat (rdOf false t204 x23_1)) := ⟨_, rfl⟩
  replace H : (workflow_onPath.l0 k1 y209 t204 (t204.length : Int) (wrap64 (x23_1 + 1))) = some r := hrp hy209 H
  have Ny209 := am hy209
  clear hy209
  have H' := am H
  clear H
  obtain ⟨p207, q207, ad207, e207, hx207_0⟩ := dbool (Kd.R_reads' HO_21.1).2.2 x23_1
  (try rw [← Nbq27.1] at hx207_0)
  cases e207
  obtain ⟨Ao30, co30, eo30⟩ := Kd.R_slice HO_8.1
  subst eo30
  obtain ⟨p208, q208, ad208, e208, hx208_0⟩ := dbool (Kd.R_reads' HO_8.1).2.2 x23_1
  (try rw [← Nbq27.1] at hx208_0)
  cases e208
  have p29 : 0 ≤ (x23_1 : Int) := dq
  have q29 : (x23_1 : Int) < ((x8_1.length : Int) : Int) := dq
  obtain ⟨go29, co29, eo29, gb29, gl29, cl29, HG29⟩ := Kd.R_form HO_8.1 (by omega)
  (first | cases eo29 | (injection eo29 with ea_ en_ ec_; (first | subst ea_ | (injection ea_ with ea_; subst ea_)); subst ec_; clear en_))
  have GB29 := am gb29
  have GG29 := am HG29
  clear gb29 gl29 HG29
  (first | simp only [add_plain] at hx208_0 | skip)
  obtain ⟨hx29_0, hf29_0⟩ := Kd.R_celln false HO_8.1 (x23_1 : Int) p29 q29
  replace p29 := eq_true p29
  replace q29 := eq_true q29
  have HP31 := Kd.R_putg HO_8.1 (x23_1 : Int) (rdOf false t204 x23_1)
  go_wp2_with (first | ((with_reducible refine gate_store (t := 4) (p := 37) rfl ?_); refine store_event (t := 4) (p := 37) (v := ?vo_w32) (w1 := (wr.setCell ⟨go29, (x23_1 : Int).toNat, none⟩ (.bool (rdOf false t204 x23_1)))) ?hg ?ho ?hn ?hr ?_; (case ho => rfl); (case hg => rfl); (case hn => rfl); (case hr => first | (go_simp; done) | (go_simp; rfl)); intro w32 hw; have hg : wr.grownBy w32 (some go29) := (by rw [hw]; exact HP31.2); have hp_ : Kd.R Kd.bool 4 w32 w.heap.size (fun k_ => some k_ ≠ (.slice (some ad207) t204.length co22 : Value).ownBlock) (.slice (some ⟨go29, 0, none⟩) x8_1.length co30) y209 := (by rw [hw, Ny209.1]; exact HP31.1); clear HP31; replace HO_21 := am (Kd.R_after (v := (.slice (some ⟨go29, 0, none⟩) x8_1.length co30)) (v1 := (.slice (some ⟨go29, 0, none⟩) x8_1.length co30)) (ok := (fun _ => True)) (by (with_reducible repeat (first | apply Kd.R_alloc | apply Kd.R_drewN | apply Kd.R_drew)); exact Kd.R_mono HO_21.1 (fun _ hk => ⟨trivial, hk⟩)) hg (.inl rfl)); replace BK188 := am (blk_grown (g := gb188) (o := .cells #[.string a0_0, .slice A0_1 l0_1.length c0_1, .slice A0_2 l0_2.length c0_2] 25 (0, 0)) (by exact pbk BK188.1) hg (Kd.R_ne HO_8.1 BK188.1 (by decide))); replace HO_8 := am hp_; replace HB := am ((by rw [hw]; exact below_set (HB.1) GB29.1 : Below w.heap.size w w32)); clear hg hw hp_))
  go_roundg k1
  case measure => have := HK1.1; omega
  case rel => exact ⟨(y209), (wrap64 (x23_1 + 1)), prs, H', ⟨by have := HK1.1; omega⟩, ⟨pkr HO_8.1⟩, ⟨by (with_reducible repeat (first | apply Kd.R_alloc | apply Kd.R_drewN | apply Kd.R_drew)); exact Kd.R_mono HO_21.1 (fun _ hk => hk.2)⟩, ⟨pbk BK188.1⟩, ⟨pbg⟩⟩
 replace c28 := Bool.eq_false_iff.mpr c28
 subst c28
 rw [if_neg Bool.false_ne_true] at H
 obtain ⟨y210, hy210⟩ : ∃ y_ : List Bool, y_ = (x8_1.set (x23_1 : Int).toNat false) := ⟨_, rfl⟩
 replace H : (workflow_onPath.l0 k1 y210 t204 (t204.length : Int) (wrap64 (x23_1 + 1))) = some r := hrp hy210 H
 have Ny210 := am hy210
 clear hy210
 have H' := am H
 clear H
 obtain ⟨p207, q207, ad207, e207, hx207_0⟩ := dbool (Kd.R_reads' HO_21.1).2.2 x23_1
 (try rw [← Nbq27.1] at hx207_0)
 cases e207
 obtain ⟨Ao34, co34, eo34⟩ := Kd.R_slice HO_8.1
 subst eo34
 obtain ⟨p208, q208, ad208, e208, hx208_0⟩ := dbool (Kd.R_reads' HO_8.1).2.2 x23_1
 (try rw [← Nbq27.1] at hx208_0)
 cases e208
 have p33 : 0 ≤ (x23_1 : Int) := dq
 have q33 : (x23_1 : Int) < ((x8_1.length : Int) : Int) := dq
 obtain ⟨go33, co33, eo33, gb33, gl33, cl33, HG33⟩ := Kd.R_form HO_8.1 (by omega)
 (first | cases eo33 | (injection eo33 with ea_ en_ ec_; (first | subst ea_ | (injection ea_ with ea_; subst ea_)); subst ec_; clear en_))
 have GB33 := am gb33
 have GG33 := am HG33
 clear gb33 gl33 HG33
 (first | simp only [add_plain] at hx208_0 | skip)
 obtain ⟨hx33_0, hf33_0⟩ := Kd.R_celln false HO_8.1 (x23_1 : Int) p33 q33
 replace p33 := eq_true p33
 replace q33 := eq_true q33
 have HP35 := Kd.R_putg HO_8.1 (x23_1 : Int) false
 go_wp2_with (first | ((with_reducible refine gate_store (t := 4) (p := 37) rfl ?_); refine store_event (t := 4) (p := 37) (v := ?vo_w36) (w1 := (wr.setCell ⟨go33, (x23_1 : Int).toNat, none⟩ (.bool false))) ?hg ?ho ?hn ?hr ?_; (case ho => rfl); (case hg => rfl); (case hn => rfl); (case hr => first | (go_simp; done) | (go_simp; rfl)); intro w36 hw; have hg : wr.grownBy w36 (some go33) := (by rw [hw]; exact HP35.2); have hp_ : Kd.R Kd.bool 4 w36 w.heap.size (fun k_ => some k_ ≠ (.slice (some ad207) t204.length co22 : Value).ownBlock) (.slice (some ⟨go33, 0, none⟩) x8_1.length co34) y210 := (by rw [hw, Ny210.1]; exact HP35.1); clear HP35; replace HO_21 := am (Kd.R_after (v := (.slice (some ⟨go33, 0, none⟩) x8_1.length co34)) (v1 := (.slice (some ⟨go33, 0, none⟩) x8_1.length co34)) (ok := (fun _ => True)) (by (with_reducible repeat (first | apply Kd.R_alloc | apply Kd.R_drewN | apply Kd.R_drew)); exact Kd.R_mono HO_21.1 (fun _ hk => ⟨trivial, hk⟩)) hg (.inl rfl)); replace BK188 := am (blk_grown (g := gb188) (o := .cells #[.string a0_0, .slice A0_1 l0_1.length c0_1, .slice A0_2 l0_2.length c0_2] 25 (0, 0)) (by exact pbk BK188.1) hg (Kd.R_ne HO_8.1 BK188.1 (by decide))); replace HO_8 := am hp_; replace HB := am ((by rw [hw]; exact below_set (HB.1) GB33.1 : Below w.heap.size w w36)); clear hg hw hp_))
 go_roundg k1
 case measure => have := HK1.1; omega
 case rel => exact ⟨(y210), (wrap64 (x23_1 + 1)), prs, H', ⟨by have := HK1.1; omega⟩, ⟨pkr HO_8.1⟩, ⟨by (with_reducible repeat (first | apply Kd.R_alloc | apply Kd.R_drewN | apply Kd.R_drew)); exact Kd.R_mono HO_21.1 (fun _ hk => hk.2)⟩, ⟨pbk BK188.1⟩, ⟨pbg⟩⟩

/-! ### net_Place: function 31 -/
def net_Place.l0 : Nat → ByteArray → List (S52) → Int → Int → Option (Int)
 | 0, _, _, _, _ => none
 | k + 1, x1, x11, x12, x13 => if x13 < x12 then (if 0 ≤ x13 then (if x13 < (x11.length : Int) then (if ((rd_T52 x11 x13).f0).toList = x1.toList then (some x13) else (net_Place.l0 k x1 x11 x12 (wrap64 (x13 + 1)))) else (none)) else (none)) else (some (-1))
def net_Place.f (k : Nat) (a0_0 : ByteArray) (l0_1 : List (S52)) (l0_2 : List (S48)) (a1 : ByteArray) : Option (Int) := (net_valid.f k a0_0 l0_1 l0_2).bind fun t261 => (if t261 = true then (net_Place.l0 k a1 l0_1 (l0_1.length : Int) 0) else (some (-1)))
theorem net_Place.mono_l : ∀ k, M4 net_Place.l0 k
 | 0 => fun _ _ _ _ r h => by simp [net_Place.l0] at h
 | k + 1 => by
  have ih0 := net_Place.mono_l k
  ·intro y0 y1 y2 y3
   unfold net_Place.l0
   repeat' first | (with_reducible first | apply ih0 | apply net_valid.mono | apply lr | apply ln | apply li | refine lb ?_ fun _ => ?_)
theorem net_Place.mono : ∀ a0 a1 a2 a3 k, LeO (net_Place.f k a0 a1 a2 a3) (net_Place.f (k + 1) a0 a1 a2 a3) := by
 intro a0 a1 a2 a3 k
 have ih0 := net_Place.mono_l k
 unfold net_Place.f
 repeat' first | (with_reducible first | apply ih0 | apply net_valid.mono | apply lr | apply ln | apply li | refine lb ?_ fun _ => ?_)
set_option maxHeartbeats 8000000 in
set_option maxRecDepth 100000 in
theorem net_Place.calls (k : Nat) (a0_0 : ByteArray) (A0_1 : Option Addr) (c0_1 : Nat) (l0_1 : List (S52)) (A0_2 : Option Addr) (c0_2 : Nat) (l0_2 : List (S48)) (a1 : ByteArray) (r : Int) (w : World) (hr0_1 : Kd.C k52 w A0_1 l0_1.length l0_1) (hc0_1 : l0_1.length ≤ c0_1) (hr0_2 : Kd.C k48 w A0_2 l0_2.length l0_2) (hc0_2 : l0_2.length ≤ c0_2) (h : net_Place.f k a0_0 l0_1 l0_2 a1 = some r) :
  Calls Try.prog 31 #[.agg #[.string a0_0, .slice A0_1 l0_1.length c0_1, .slice A0_2 l0_2.length c0_2], .string a1] w fun e w' => e = .returned (.int .i64 r) ∧ Below w.heap.size w w' := by
 have hu25 := Try.underlying25
 have hu52 := Try.underlying52
 have HR0_1 := am hr0_1
 have HC0_1 := am hc0_1
 clear hr0_1 hc0_1
 have HR0_2 := am hr0_2
 have HC0_2 := am hc0_2
 clear hr0_2 hc0_2
 have HB := am (Below.refl w.heap.size w)
 have H : ((net_valid.f k a0_0 l0_1 l0_2).bind fun t261 => (if t261 = true then (net_Place.l0 k a1 l0_1 (l0_1.length : Int) 0) else (some (-1)))) = some r := h
 clear h
 replace H := bnd H
 obtain ⟨t261, A3, H⟩ := H
 (try dsimp only at H)
 by_cases c4 : t261 = true
 rotate_left
 ·replace c4 := Bool.eq_false_iff.mpr c4
  subst c4
  rw [if_neg Bool.false_ne_true] at H
  obtain rfl := Option.some.inj H
  go_enter Try.func31, Try.ntmps31
  go_wp2_with (first | ((with_reducible refine gate_dst (N := 2) rfl ?_); refine box_ev (N := 2) (cs := #[.string a0_0, .slice A0_1 l0_1.length c0_1, .slice A0_2 l0_2.length c0_2]) (t := 25) ?_; intro gb260 hg w19 hbox hb; have BK260 := am hbox; have GW260 := gwl hg; have GE260 := GW260; replace HB := bsl hb; clear hb hbox hg; obtain ⟨z20_0, z20_1, z20_2, y20_0, y20_1, y20_2⟩ := cf3 BK260.1) | ((with_reducible refine gate_callee (f := 52) rfl ?_); refine gC 8 Try.func52 _ (net_valid.calls k a0_0 _ _ l0_1 _ _ l0_2 false _ (csb HR0_1 HB) HC0_1.1 (csb HR0_2 HB) HC0_2.1 A3.1) ?_; rintro e w21 ⟨rfl, hb⟩; refine ⟨_, rfl, ?_⟩; replace BK260 := bbh BK260 hb; replace HB := bst hb; (try clear hb)))
  go_ret
  exact ⟨per, pbg⟩
 subst c4
 rw [if_pos rfl] at H
 have H' := am H
 clear H
 go_enter Try.func31, Try.ntmps31
 go_wp2_with (first | ((with_reducible refine gate_dst (N := 2) rfl ?_); refine box_ev (N := 2) (cs := #[.string a0_0, .slice A0_1 l0_1.length c0_1, .slice A0_2 l0_2.length c0_2]) (t := 25) ?_; intro gb260 hg w5 hbox hb; have BK260 := am hbox; have GW260 := gwl hg; have GE260 := GW260; replace HB := bsl hb; clear hb hbox hg; obtain ⟨z6_0, z6_1, z6_2, y6_0, y6_1, y6_2⟩ := cf3 BK260.1) | ((with_reducible refine gate_callee (f := 52) rfl ?_); refine gC 8 Try.func52 _ (net_valid.calls k a0_0 _ _ l0_1 _ _ l0_2 true _ (csb HR0_1 HB) HC0_1.1 (csb HR0_2 HB) HC0_2.1 A3.1) ?_; rintro e w7 ⟨rfl, hb⟩; refine ⟨_, rfl, ?_⟩; replace BK260 := bbh BK260 hb; replace HB := bst hb; (try clear hb); obtain ⟨z8_0, z8_1, z8_2, y8_0, y8_1, y8_2⟩ := cf3 BK260.1))
 go_loopg [13] k (fun kq v13 w' => ∃ (x13_1 : Int), v13 = .int .i64 x13_1 ∧ Aside0 (net_Place.l0 kq a1 l0_1 (l0_1.length : Int) x13_1 = some r) ∧ Aside0 (kq ≤ k) ∧ Aside0 (w'.heap[gb260]? = some (.cells #[.string a0_0, (.slice A0_1 l0_1.length c0_1), (.slice A0_2 l0_2.length c0_2)] 25 (0, 0))) ∧ Aside0 (Below w.heap.size w w'))
 case atStart => exact ⟨(0), prs, H', ⟨Nat.le_refl _⟩, ⟨pbk BK260.1⟩, ⟨pbg⟩⟩
 clear H'
 try clear c4 z6_0 z6_1 z6_2 z8_0 z8_1 z8_2 y6_0 y6_1 y6_2 y8_0 y8_1 y8_2
 obtain ⟨x13_1, rfl, HA, HK1, BK260, HB⟩ := hrel
 obtain _ | k1 := gk
 ·exact absurd HA.1 (by simp [net_Place.l0])
 have H := HA.1
 clear HA
 simp only [net_Place.l0] at H
 by_cases c9 : x13_1 < (l0_1.length : Int)
 rotate_left
 ·rw [if_neg c9] at H
  have c9b0 : decide (x13_1 < (l0_1.length : Int)) = false := decide_eq_false c9
  clear c9
  obtain rfl := Option.some.inj H
  go_wp2
  go_ret
  exact ⟨per, pbg⟩
 rw [if_pos c9] at H
 have c9b0 : decide (x13_1 < (l0_1.length : Int)) = true := decide_eq_true c9
 clear c9
 replace H := ifp H
 obtain ⟨c10, H⟩ := H
 have c10b0 := decide_eq_true c10
 clear c10
 replace H := ifp H
 obtain ⟨c11, H⟩ := H
 have c11b0 := decide_eq_true c11
 clear c11
 by_cases c12 : ((rd_T52 l0_1 x13_1).f0).toList = a1.toList
 ·rw [if_pos c12] at H
  have c12b0 : (((rd_T52 l0_1 x13_1).f0).toList == a1.toList) = true := beq_iff_eq.mpr c12
  have c12b1 : (((rd_T52 l0_1 x13_1).f0).toList != a1.toList) = false := bne_eq_false_iff_eq.mpr c12
  clear c12
  obtain rfl := Option.some.inj H
  obtain ⟨p262, q262, ad262, e262, hx262_0, hx262_1, hx262_2⟩ := bT52 HR0_1.1 HB.1 x13_1
  cases e262
  go_wp2_with (first | ((with_reducible refine gate_dst (N := 6) rfl ?_); refine box_ev (N := 6) (cs := #[.string (⟨#[]⟩ : ByteArray), .int .i64 0, .int .i64 0]) (t := 52) ?_; intro gb263 hg w13 hbox hb; have BK263 := am hbox; have GW263 := gwb hg; have GE263 := GW263; have NB260_263 := nlt hg BK260; have NB263_260 := ngt hg BK260; replace BK260 := bbh BK260 hb; replace HB := bst hb; clear hb hbox hg; have hnb14 := NB263_260.1; have hnc14 := NB260_263.1; obtain ⟨z15_0, z15_1, z15_2, y15_0, y15_1, y15_2⟩ := cf3 BK263.1))
  go_ret
  exact ⟨per, pbg⟩
 rw [if_neg c12] at H
 have c12b0 : (((rd_T52 l0_1 x13_1).f0).toList == a1.toList) = false := beq_eq_false_iff_ne.mpr c12
 have c12b1 : (((rd_T52 l0_1 x13_1).f0).toList != a1.toList) = true := bne_iff_ne.mpr c12
 have H' := am H
 clear H
 obtain ⟨p262, q262, ad262, e262, hx262_0, hx262_1, hx262_2⟩ := bT52 HR0_1.1 HB.1 x13_1
 cases e262
 go_wp2_with (first | ((with_reducible refine gate_dst (N := 6) rfl ?_); refine box_ev (N := 6) (cs := #[.string (⟨#[]⟩ : ByteArray), .int .i64 0, .int .i64 0]) (t := 52) ?_; intro gb263 hg w16 hbox hb; have BK263 := am hbox; have GW263 := gwb hg; have GE263 := GW263; have NB260_263 := nlt hg BK260; have NB263_260 := ngt hg BK260; replace BK260 := bbh BK260 hb; replace HB := bst hb; clear hb hbox hg; have hnb17 := NB263_260.1; have hnc17 := NB260_263.1; obtain ⟨z18_0, z18_1, z18_2, y18_0, y18_1, y18_2⟩ := cf3 BK263.1))
 go_roundg k1
 case measure => have := HK1.1; omega
 case rel => exact ⟨(wrap64 (x13_1 + 1)), prs, H', ⟨by have := HK1.1; omega⟩, ⟨by (with_reducible repeat (first | refine blk_drewN ?_ _ | refine blk_drew ?_ | refine blk_alloc ?_ _)); refine bf3 ?_ NB260_263.1; exact pbk BK260.1⟩, ⟨pbg⟩⟩

/-! ### net_Trans: function 32 -/
def net_Trans.l0 : Nat → ByteArray → List (S48) → Int → Int → Option (Int)
 | 0, _, _, _, _ => none
 | k + 1, x1, x11, x12, x13 => if x13 < x12 then (if 0 ≤ x13 then (if x13 < (x11.length : Int) then (if ((rd_T48 x11 x13).f0).toList = x1.toList then (some x13) else (net_Trans.l0 k x1 x11 x12 (wrap64 (x13 + 1)))) else (none)) else (none)) else (some (-1))
def net_Trans.f (k : Nat) (a0_0 : ByteArray) (l0_1 : List (S52)) (l0_2 : List (S48)) (a1 : ByteArray) : Option (Int) := (net_valid.f k a0_0 l0_1 l0_2).bind fun t265 => (if t265 = true then (net_Trans.l0 k a1 l0_2 (l0_2.length : Int) 0) else (some (-1)))
theorem net_Trans.mono_l : ∀ k, M4 net_Trans.l0 k
 | 0 => fun _ _ _ _ r h => by simp [net_Trans.l0] at h
 | k + 1 => by
  have ih0 := net_Trans.mono_l k
  ·intro y0 y1 y2 y3
   unfold net_Trans.l0
   repeat' first | (with_reducible first | apply ih0 | apply net_valid.mono | apply lr | apply ln | apply li | refine lb ?_ fun _ => ?_)
theorem net_Trans.mono : ∀ a0 a1 a2 a3 k, LeO (net_Trans.f k a0 a1 a2 a3) (net_Trans.f (k + 1) a0 a1 a2 a3) := by
 intro a0 a1 a2 a3 k
 have ih0 := net_Trans.mono_l k
 unfold net_Trans.f
 repeat' first | (with_reducible first | apply ih0 | apply net_valid.mono | apply lr | apply ln | apply li | refine lb ?_ fun _ => ?_)
set_option maxHeartbeats 8000000 in
set_option maxRecDepth 100000 in
theorem net_Trans.calls (k : Nat) (a0_0 : ByteArray) (A0_1 : Option Addr) (c0_1 : Nat) (l0_1 : List (S52)) (A0_2 : Option Addr) (c0_2 : Nat) (l0_2 : List (S48)) (a1 : ByteArray) (r : Int) (w : World) (hr0_1 : Kd.C k52 w A0_1 l0_1.length l0_1) (hc0_1 : l0_1.length ≤ c0_1) (hr0_2 : Kd.C k48 w A0_2 l0_2.length l0_2) (hc0_2 : l0_2.length ≤ c0_2) (h : net_Trans.f k a0_0 l0_1 l0_2 a1 = some r) :
  Calls Try.prog 32 #[.agg #[.string a0_0, .slice A0_1 l0_1.length c0_1, .slice A0_2 l0_2.length c0_2], .string a1] w fun e w' => e = .returned (.int .i64 r) ∧ Below w.heap.size w w' := by
 have hu25 := Try.underlying25
 have hu48 := Try.underlying48
 have HR0_1 := am hr0_1
 have HC0_1 := am hc0_1
 clear hr0_1 hc0_1
 have HR0_2 := am hr0_2
 have HC0_2 := am hc0_2
 clear hr0_2 hc0_2
 have HB := am (Below.refl w.heap.size w)
 have H : ((net_valid.f k a0_0 l0_1 l0_2).bind fun t265 => (if t265 = true then (net_Trans.l0 k a1 l0_2 (l0_2.length : Int) 0) else (some (-1)))) = some r := h
 clear h
 replace H := bnd H
 obtain ⟨t265, A3, H⟩ := H
 (try dsimp only at H)
 by_cases c4 : t265 = true
 rotate_left
 ·replace c4 := Bool.eq_false_iff.mpr c4
  subst c4
  rw [if_neg Bool.false_ne_true] at H
  obtain rfl := Option.some.inj H
  go_enter Try.func32, Try.ntmps32
  go_wp2_with (first | ((with_reducible refine gate_dst (N := 2) rfl ?_); refine box_ev (N := 2) (cs := #[.string a0_0, .slice A0_1 l0_1.length c0_1, .slice A0_2 l0_2.length c0_2]) (t := 25) ?_; intro gb264 hg w19 hbox hb; have BK264 := am hbox; have GW264 := gwl hg; have GE264 := GW264; replace HB := bsl hb; clear hb hbox hg; obtain ⟨z20_0, z20_1, z20_2, y20_0, y20_1, y20_2⟩ := cf3 BK264.1) | ((with_reducible refine gate_callee (f := 52) rfl ?_); refine gC 8 Try.func52 _ (net_valid.calls k a0_0 _ _ l0_1 _ _ l0_2 false _ (csb HR0_1 HB) HC0_1.1 (csb HR0_2 HB) HC0_2.1 A3.1) ?_; rintro e w21 ⟨rfl, hb⟩; refine ⟨_, rfl, ?_⟩; replace BK264 := bbh BK264 hb; replace HB := bst hb; (try clear hb)))
  go_ret
  exact ⟨per, pbg⟩
 subst c4
 rw [if_pos rfl] at H
 have H' := am H
 clear H
 go_enter Try.func32, Try.ntmps32
 go_wp2_with (first | ((with_reducible refine gate_dst (N := 2) rfl ?_); refine box_ev (N := 2) (cs := #[.string a0_0, .slice A0_1 l0_1.length c0_1, .slice A0_2 l0_2.length c0_2]) (t := 25) ?_; intro gb264 hg w5 hbox hb; have BK264 := am hbox; have GW264 := gwl hg; have GE264 := GW264; replace HB := bsl hb; clear hb hbox hg; obtain ⟨z6_0, z6_1, z6_2, y6_0, y6_1, y6_2⟩ := cf3 BK264.1) | ((with_reducible refine gate_callee (f := 52) rfl ?_); refine gC 8 Try.func52 _ (net_valid.calls k a0_0 _ _ l0_1 _ _ l0_2 true _ (csb HR0_1 HB) HC0_1.1 (csb HR0_2 HB) HC0_2.1 A3.1) ?_; rintro e w7 ⟨rfl, hb⟩; refine ⟨_, rfl, ?_⟩; replace BK264 := bbh BK264 hb; replace HB := bst hb; (try clear hb); obtain ⟨z8_0, z8_1, z8_2, y8_0, y8_1, y8_2⟩ := cf3 BK264.1))
 go_loopg [13] k (fun kq v13 w' => ∃ (x13_1 : Int), v13 = .int .i64 x13_1 ∧ Aside0 (net_Trans.l0 kq a1 l0_2 (l0_2.length : Int) x13_1 = some r) ∧ Aside0 (kq ≤ k) ∧ Aside0 (w'.heap[gb264]? = some (.cells #[.string a0_0, (.slice A0_1 l0_1.length c0_1), (.slice A0_2 l0_2.length c0_2)] 25 (0, 0))) ∧ Aside0 (Below w.heap.size w w'))
 case atStart => exact ⟨(0), prs, H', ⟨Nat.le_refl _⟩, ⟨pbk BK264.1⟩, ⟨pbg⟩⟩
 clear H'
 try clear c4 z6_0 z6_1 z6_2 z8_0 z8_1 z8_2 y6_0 y6_1 y6_2 y8_0 y8_1 y8_2
 obtain ⟨x13_1, rfl, HA, HK1, BK264, HB⟩ := hrel
 obtain _ | k1 := gk
 ·exact absurd HA.1 (by simp [net_Trans.l0])
 have H := HA.1
 clear HA
 simp only [net_Trans.l0] at H
 by_cases c9 : x13_1 < (l0_2.length : Int)
 rotate_left
 ·rw [if_neg c9] at H
  have c9b0 : decide (x13_1 < (l0_2.length : Int)) = false := decide_eq_false c9
  clear c9
  obtain rfl := Option.some.inj H
  go_wp2
  go_ret
  exact ⟨per, pbg⟩
 rw [if_pos c9] at H
 have c9b0 : decide (x13_1 < (l0_2.length : Int)) = true := decide_eq_true c9
 clear c9
 replace H := ifp H
 obtain ⟨c10, H⟩ := H
 have c10b0 := decide_eq_true c10
 clear c10
 replace H := ifp H
 obtain ⟨c11, H⟩ := H
 have c11b0 := decide_eq_true c11
 clear c11
 by_cases c12 : ((rd_T48 l0_2 x13_1).f0).toList = a1.toList
 ·rw [if_pos c12] at H
  have c12b0 : (((rd_T48 l0_2 x13_1).f0).toList == a1.toList) = true := beq_iff_eq.mpr c12
  have c12b1 : (((rd_T48 l0_2 x13_1).f0).toList != a1.toList) = false := bne_eq_false_iff_eq.mpr c12
  clear c12
  obtain rfl := Option.some.inj H
  obtain ⟨p266, q266, ad266, A266_1, c266_1, A266_2, c266_2, A266_3, c266_3, e266, hx266_0, hx266_1, hx266_2, hx266_3, hx266_4, HC266_1, HR266_1, HC266_2, HR266_2, HC266_3, HR266_3⟩ := bT48 HR0_2.1 HB.1 x13_1
  cases e266
  go_wp2_with (first | ((with_reducible refine gate_dst (N := 6) rfl ?_); refine box_ev (N := 6) (cs := #[.string (⟨#[]⟩ : ByteArray), .slice none 0 0, .slice none 0 0, .slice none 0 0, .int .i64 0]) (t := 48) ?_; intro gb267 hg w13 hbox hb; have BK267 := am hbox; have GW267 := gwb hg; have GE267 := GW267; have NB264_267 := nlt hg BK264; have NB267_264 := ngt hg BK264; replace BK264 := bbh BK264 hb; replace HB := bst hb; clear hb hbox hg; have hnb14 := NB267_264.1; have hnc14 := NB264_267.1; obtain ⟨z15_0, z15_1, z15_2, z15_3, z15_4, y15_0, y15_1, y15_2, y15_3, y15_4⟩ := cf5 BK267.1))
  go_ret
  exact ⟨per, pbg⟩
 rw [if_neg c12] at H
 have c12b0 : (((rd_T48 l0_2 x13_1).f0).toList == a1.toList) = false := beq_eq_false_iff_ne.mpr c12
 have c12b1 : (((rd_T48 l0_2 x13_1).f0).toList != a1.toList) = true := bne_iff_ne.mpr c12
 have H' := am H
 clear H
 obtain ⟨p266, q266, ad266, A266_1, c266_1, A266_2, c266_2, A266_3, c266_3, e266, hx266_0, hx266_1, hx266_2, hx266_3, hx266_4, HC266_1, HR266_1, HC266_2, HR266_2, HC266_3, HR266_3⟩ := bT48 HR0_2.1 HB.1 x13_1
 cases e266
 go_wp2_with (first | ((with_reducible refine gate_dst (N := 6) rfl ?_); refine box_ev (N := 6) (cs := #[.string (⟨#[]⟩ : ByteArray), .slice none 0 0, .slice none 0 0, .slice none 0 0, .int .i64 0]) (t := 48) ?_; intro gb267 hg w16 hbox hb; have BK267 := am hbox; have GW267 := gwb hg; have GE267 := GW267; have NB264_267 := nlt hg BK264; have NB267_264 := ngt hg BK264; replace BK264 := bbh BK264 hb; replace HB := bst hb; clear hb hbox hg; have hnb17 := NB267_264.1; have hnc17 := NB264_267.1; obtain ⟨z18_0, z18_1, z18_2, z18_3, z18_4, y18_0, y18_1, y18_2, y18_3, y18_4⟩ := cf5 BK267.1))
 go_roundg k1
 case measure => have := HK1.1; omega
 case rel => exact ⟨(wrap64 (x13_1 + 1)), prs, H', ⟨by have := HK1.1; omega⟩, ⟨by (with_reducible repeat (first | refine blk_drewN ?_ _ | refine blk_drew ?_ | refine blk_alloc ?_ _)); refine bf5 ?_ NB264_267.1; exact pbk BK264.1⟩, ⟨pbg⟩⟩

/-! ### net_Producers: function 29 -/
-- IMPORTS Derived.RegionTactic,Derived.BigRegion,Derived.Laws.EntriesVeiled
theorem arcs_Producers (w : World) (s : ByteArray) (v1 v2 v3 : Value) (x : Int) : Calls Try.prog 50 #[.agg #[.string s, v1, v2, v3, .int .i64 x]] w fun e w' => e = .returned v2 ∧ Below w.heap.size w w' := by
 have hu := Try.underlying48
 obtain ⟨c0, c1, c2, c3, c4⟩ := trans_facts (alloc_new w (.cells #[.string s, v1, v2, v3, .int .i64 x] 48))
 go_enter Try.func50, Try.ntmps50
 go_wp2
 go_ret
 exact ⟨rfl, below_alloc (Below.refl _ _) _⟩
def net_Producers.l0 : Nat → List S48 → Int → List Int → Int → Option (List Int)
 | 0, _, _, _, _ => none
 | k + 1, l2, p, out, i => if i < (l2.length : Int) then (if 0 ≤ i then ((net_weight.f k (rd_T48 l2 i).f2 p).bind fun t => if t > 0 then (if out.length < 17592186044416 then net_Producers.l0 k l2 p (out ++ [i]) (wrap64 (i + 1)) else none) else net_Producers.l0 k l2 p out (wrap64 (i + 1))) else none) else some out
def net_Producers.f (k : Nat) (a0_0 : ByteArray) (l0_1 : List (S52)) (l0_2 : List (S48)) (a1 : Int) : Option (List Int) := (net_valid.f k a0_0 l0_1 l0_2).bind fun t => if t = true then net_Producers.l0 k l0_2 a1 [] 0 else some []
theorem net_Producers.mono_l : ∀ k y0 y1 y2 y3, LeO (net_Producers.l0 k y0 y1 y2 y3) (net_Producers.l0 (k + 1) y0 y1 y2 y3)
 | 0 => fun _ _ _ _ r h => by simp [net_Producers.l0] at h
 | k + 1 => by
  have ih0 := net_Producers.mono_l k
  intro y0 y1 y2 y3
  unfold net_Producers.l0
  repeat' first | exact ih0 _ _ _ _ | exact net_weight.mono _ _ _ | exact LeO.refl _ | exact LeO.none _ | refine LeO.ite ?_ ?_ | refine LeO.bind (net_weight.mono _ _ _) (fun _ => ?_)
theorem net_Producers.mono : ∀ a0 a1 a2 a3 k, LeO (net_Producers.f k a0 a1 a2 a3) (net_Producers.f (k + 1) a0 a1 a2 a3) := by
 intro a0 a1 a2 a3 k
 unfold net_Producers.f
 exact LeO.bind (net_valid.mono _ _ _ _) (fun _ => LeO.ite (net_Producers.mono_l k _ _ _ _) (LeO.refl _))
set_option maxHeartbeats 4000000 in
set_option maxRecDepth 100000 in
theorem users_Producers (k : Nat) (a0_0 : ByteArray) (A0_1 : Option Addr) (c0_1 : Nat) (l0_1 : List (S52)) (A0_2 : Option Addr) (c0_2 : Nat) (l0_2 : List (S48)) (a1 : Int) (r : List Int) (w : World) (hr0_1 : Kd.C k52 w A0_1 l0_1.length l0_1) (hc0_1 : l0_1.length ≤ c0_1) (hr0_2 : Kd.C k48 w A0_2 l0_2.length l0_2) (hc0_2 : l0_2.length ≤ c0_2) (h : net_Producers.f k a0_0 l0_1 l0_2 a1 = some r) :
  Calls Try.prog 49 #[.agg #[.string a0_0, .slice A0_1 l0_1.length c0_1, .slice A0_2 l0_2.length c0_2], .int .i64 a1, .func (.func 50) #[] #[]] w fun e w' => ∃ v0_ : Value, e = .returned (v0_) ∧ Kd.R (Kd.int .i64) 3 w' w.heap.size (fun _ => True) v0_ r ∧ Below w.heap.size w w' := by
 have hu1 := Try.underlying25
 have hu2 := Try.underlying48
 have HR1 := Aside0.mk hr0_1
 have HC1 := Aside0.mk hc0_1
 have HR2 := Aside0.mk hr0_2
 have HC2 := Aside0.mk hc0_2
 clear hr0_1 hc0_1 hr0_2 hc0_2
 unfold net_Producers.f at h
 obtain ⟨t, ht, h⟩ := Option.bind_eq_some_iff.mp h
 have HV := Aside0.mk ht
 have HX := Aside0.mk (alloc_new w (.cells #[.string a0_0, .slice A0_1 l0_1.length c0_1, .slice A0_2 l0_2.length c0_2] 25))
 have HB := Aside0.mk (show Below w.heap.size w (w.alloc (.cells #[.string a0_0, .slice A0_1 l0_1.length c0_1, .slice A0_2 l0_2.length c0_2] 25)) from below_alloc (Below.refl _ _) _)
 obtain ⟨cx0, cx1, cx2⟩ := net_facts HX.out
 clear ht
 cases t with
 | false =>
  rw [if_neg Bool.false_ne_true] at h
  obtain rfl := Option.some.inj h
  go_enter Try.func49, Try.ntmps49
  go_wp2_with (first | (go_at_call 52; refine (net_valid.calls k _ _ _ _ _ _ _ _ _ (Kd.C_below HR1.out HB.out) HC1.out (Kd.C_below HR2.out HB.out) HC2.out HV.out).mono ?_; rintro e w3 ⟨rfl, hb⟩; have HB3 := Aside0.mk (HB.out.trans (hb.mono HB.out.size)); clear hb))
  go_ret
  exact ⟨_, rfl, Kd.R_nil _ _ _ _ _, HB3.out⟩
 | true =>
  rw [if_pos rfl] at h
  have H := Aside0.mk h
  clear h
  go_enter Try.func49, Try.ntmps49
  go_wp2_with (first | (go_at_call 52; refine (net_valid.calls k _ _ _ _ _ _ _ _ _ (Kd.C_below HR1.out HB.out) HC1.out (Kd.C_below HR2.out HB.out) HC2.out HV.out).mono ?_; rintro e w3 ⟨rfl, hb⟩; have HB3 := Aside0.mk (HB.out.trans (hb.mono HB.out.size)); obtain ⟨dx0, dx1, dx2⟩ := net_facts (blk_below HX.out hb); clear hb))
  clear dx0 dx1 dx2 cx0 cx1 cx2 HX HB HV
  go_loopg [7, 16] k (fun kq v7 v16 w' => ∃ (i : Int) (out : List Int), v16 = .int .i64 i ∧ Aside0 (net_Producers.l0 kq l0_2 a1 out i = some r) ∧ Aside0 (kq ≤ k) ∧ Aside0 (Kd.R (Kd.int .i64) 3 w' w.heap.size (fun _ => True) v7 out) ∧ Aside0 (Below w.heap.size w w'))
  case atStart => exact ⟨0, [], rfl, H, ⟨Nat.le_refl _⟩, ⟨Kd.R_nil _ _ _ _ _⟩, HB3⟩
  case round =>
   clear H HB3
   obtain ⟨i, out, rfl, HA, HJ, HO, HB⟩ := hrel
   cases gk with
   | zero => exact absurd HA.out (by simp [net_Producers.l0])
   | succ k1 =>
   have H := HA.out
   clear HA
   simp only [net_Producers.l0] at H
   by_cases d1 : i < (l0_2.length : Int)
   case neg =>
    rw [if_neg d1] at H
    have d1b : decide (i < (l0_2.length : Int)) = false := decide_eq_false d1
    obtain rfl := Option.some.inj H
    clear d1
    go_wp2
    go_ret
    exact ⟨_, rfl, HO.out, HB.out⟩
   rw [if_pos d1] at H
   have d1b : decide (i < (l0_2.length : Int)) = true := decide_eq_true d1
   by_cases d2 : 0 ≤ i
   case neg => rw [if_neg d2] at H; cases H
   rw [if_pos d2] at H
   obtain ⟨t, ht, H⟩ := Option.bind_eq_some_iff.mp H
   have HT := Aside0.mk ht
   clear ht
   obtain ⟨ad, A1, c1, A2, c2, A3, c3, eA, y0, y1, y2, y3, y4, m1, g1, m2, g2, m3, g3⟩ := at_T48 HR2.out i d2 d1
   subst eA
   have u0 := pw_cell_below HB.out y0
   have u1 := pw_cell_below HB.out y1
   have u2 := pw_cell_below HB.out y2
   have u3 := pw_cell_below HB.out y3
   have u4 := pw_cell_below HB.out y4
   clear y0 y1 y2 y3 y4
   have M := Aside0.mk m2
   have G := Aside0.mk g2
   clear m1 m2 m3 g1 g2 g3
   have q1 : (0 ≤ i) = True := eq_true d2
   have q2 : (i < (l0_2.length : Int)) = True := eq_true d1
   have HPl := Aside0.mk (alloc_new wr (.cells #[.string (rd_T48 l0_2 i).f0, .slice A1 (rd_T48 l0_2 i).f1.length c1, .slice A2 (rd_T48 l0_2 i).f2.length c2, .slice A3 (rd_T48 l0_2 i).f3.length c3, .int .i64 (rd_T48 l0_2 i).f4] 48))
   have HB1 := Aside0.mk (show Below wr.heap.size wr (wr.alloc (.cells #[.string (rd_T48 l0_2 i).f0, .slice A1 (rd_T48 l0_2 i).f1.length c1, .slice A2 (rd_T48 l0_2 i).f2.length c2, .slice A3 (rd_T48 l0_2 i).f3.length c3, .int .i64 (rd_T48 l0_2 i).f4] 48)) from below_alloc (Below.refl _ _) _)
   obtain ⟨v0, v1, v2, v3, v4⟩ := trans_facts HPl.out
   have HM := Aside0.mk (show (l0_2.length : Int) ≤ 9223372036854775807 by have := HR2.out.2.1; omega)
   by_cases d3 : t > 0
   ·rw [if_pos d3] at H
    have d3b : decide (0 < t) = true := decide_eq_true d3
    by_cases d4 : out.length < 17592186044416
    case neg => rw [if_neg d4] at H; cases H
    rw [if_pos d4, show wrap64 (i + 1) = i + 1 by have := HM.out; unfold wrap64; omega] at H
    have H' := Aside0.mk H
    have D4 := Aside0.mk d4
    clear H d3 d4
    go_wp2_with (first
     | (go_at_call 50; refine (arcs_Producers _ _ _ _ _ _).mono ?_; rintro e w4 ⟨rfl, hb⟩; have HB4 := Aside0.mk (HB1.out.trans (hb.mono HB1.out.size)); clear hb)
     | (go_at_call 71; refine (net_weight.calls k1 _ _ _ _ _ _ (Kd.C_below G.out (HB.out.trans (HB4.out.mono HB.out.size))) M.out HT.out).mono ?_; rintro e w5 ⟨rfl, hb⟩; have HB5 := Aside0.mk (HB4.out.trans (hb.mono HB4.out.size)); have HO5 := Aside0.mk (Kd.R_below HO.out HB5.out); clear hb)
     | ((with_reducible refine gate_builtin (b := .append) (xs := #[.tmp 27, .tmp 29]) rfl ?_); at_builtin; refine Kd.R_append (Kd.int .i64) (w0 := w) w.heap.size rfl (.tmp 27) (.tmp 29) 39 3 (.int .i64 0) 8 rfl Try.underlying39 info3 rfl (by decide) (by omega) _ out i [.int .i64 i] (fun _ => True) (fun _ => False) rfl rfl ?aP (fun _ hk => hk.elim) ?aF ?aO ?aB ?aS ?aL ?_; (case aP => exact rfl); (case aF => exact (fun _ _ => trivial)); (case aO => exact HO5.out); (case aB => exact (HB.out.trans (HB5.out.mono HB.out.size))); (case aS => exact Nat.le_trans HB.out.size HB5.out.size); (case aL => have := D4.out; omega); intro v2 w2 ho hb hg hat; have HO6 := Aside0.mk ho; have HB6 := Aside0.mk hb; clear ho hb hg hat))
    go_roundg k1
    case measure => have := HJ.out; omega
    case rel => exact ⟨_, _, (by congr 1; have := HM.out; (first | omega | (unfold wrap64; omega) | (show wrap64 _ = _; unfold wrap64; omega))), H', ⟨by have := HJ.out; omega⟩, HO6, HB6⟩
   ·rw [if_neg d3, show wrap64 (i + 1) = i + 1 by have := HM.out; unfold wrap64; omega] at H
    have d3b : decide (0 < t) = false := decide_eq_false d3
    have H' := Aside0.mk H
    clear H d3
    go_wp2_with (first
     | (go_at_call 50; refine (arcs_Producers _ _ _ _ _ _).mono ?_; rintro e w4 ⟨rfl, hb⟩; have HB4 := Aside0.mk (HB1.out.trans (hb.mono HB1.out.size)); clear hb)
     | (go_at_call 71; refine (net_weight.calls k1 _ _ _ _ _ _ (Kd.C_below G.out (HB.out.trans (HB4.out.mono HB.out.size))) M.out HT.out).mono ?_; rintro e w5 ⟨rfl, hb⟩; have HB5 := Aside0.mk (HB4.out.trans (hb.mono HB4.out.size)); clear hb))
    go_roundg k1
    case measure => have := HJ.out; omega
    case rel => exact ⟨_, _, (by congr 1; have := HM.out; (first | omega | (unfold wrap64; omega) | (show wrap64 _ = _; unfold wrap64; omega))), H', ⟨by have := HJ.out; omega⟩, ⟨Kd.R_below HO.out HB5.out⟩, ⟨HB.out.trans (HB5.out.mono HB.out.size)⟩⟩
theorem net_Producers.calls (k : Nat) (a0_0 : ByteArray) (A0_1 : Option Addr) (c0_1 : Nat) (l0_1 : List (S52)) (A0_2 : Option Addr) (c0_2 : Nat) (l0_2 : List (S48)) (a1 : Int) (r : List Int) (w : World) (hr0_1 : Kd.C k52 w A0_1 l0_1.length l0_1) (hc0_1 : l0_1.length ≤ c0_1) (hr0_2 : Kd.C k48 w A0_2 l0_2.length l0_2) (hc0_2 : l0_2.length ≤ c0_2) (h : net_Producers.f k a0_0 l0_1 l0_2 a1 = some r) :
  Calls Try.prog 29 #[.agg #[.string a0_0, .slice A0_1 l0_1.length c0_1, .slice A0_2 l0_2.length c0_2], .int .i64 a1] w fun e w' => ∃ v0_ : Value, e = .returned (v0_) ∧ Kd.R (Kd.int .i64) 3 w' w.heap.size (fun _ => True) v0_ r ∧ Below w.heap.size w w' := by
 have hu1 := Try.underlying25
 have HB := Aside0.mk (show Below w.heap.size w (w.alloc (.cells #[.string a0_0, .slice A0_1 l0_1.length c0_1, .slice A0_2 l0_2.length c0_2] 25)) from below_alloc (Below.refl _ _) _)
 have HR1 := Aside0.mk (Kd.C_below hr0_1 HB.out)
 have HC1 := Aside0.mk hc0_1
 have HR2 := Aside0.mk (Kd.C_below hr0_2 HB.out)
 have HC2 := Aside0.mk hc0_2
 have H := Aside0.mk h
 obtain ⟨cx0, cx1, cx2⟩ := net_facts (alloc_new w (.cells #[.string a0_0, .slice A0_1 l0_1.length c0_1, .slice A0_2 l0_2.length c0_2] 25))
 clear hr0_1 hc0_1 hr0_2 hc0_2 h
 go_enter Try.func29, Try.ntmps29
 go_wp2_with (first | (go_at_call 49; refine (users_Producers k _ _ _ _ _ _ _ _ _ _ HR1.out HC1.out HR2.out HC2.out H.out).mono ?_; rintro e w3 ⟨v3, rfl, ho, hb⟩; have HO := Aside0.mk (Kd.R_lower ho HB.out.size); have HB3 := Aside0.mk (HB.out.trans (hb.mono HB.out.size)); clear ho hb))
 go_ret
 exact ⟨_, rfl, HO.out, HB3.out⟩

/-! ### workflow_only_Producers: function 98 -/
def workflow_only_Producers.l0 : Nat → Int → Int → Int → ByteArray → List (S52) → List (S48) → Option (Int × Bool)
 | 0, _, _, _, _, _, _ => none
 | k + 1, x6, x14, x15, x122000, x122001, x122002 => if x15 < x14 then ((net_Producers.f k x122000 x122001 x122002 x15).bind fun t124 => (if (t124.length : Int) > 0 then (workflow_only_Producers.l0 k x6 x14 (wrap64 (x15 + 1)) x122000 x122001 x122002) else (if x6 ≥ 0 then (some ((-1), false)) else (workflow_only_Producers.l0 k x15 x14 (wrap64 (x15 + 1)) x122000 x122001 x122002)))) else (some (x6, decide (x6 ≥ 0)))
def workflow_only_Producers.f (k : Nat) (a0_0 : ByteArray) (l0_1 : List (S52)) (l0_2 : List (S48)) : Option (Int × Bool) := (net_Check.f k a0_0 l0_1 l0_2).bind fun bt122 => (if bt122.1 = 0 then (workflow_only_Producers.l0 k (-1) (l0_1.length : Int) 0 a0_0 l0_1 l0_2) else (some ((-1), false)))
theorem workflow_only_Producers.mono_l : ∀ k, M6 workflow_only_Producers.l0 k
 | 0 => fun _ _ _ _ _ _ r h => by simp [workflow_only_Producers.l0] at h
 | k + 1 => by
  have ih0 := workflow_only_Producers.mono_l k
  ·intro y0 y1 y2 y3 y4 y5
   unfold workflow_only_Producers.l0
   repeat' first | (with_reducible first | apply ih0 | apply net_Check.mono | apply net_Producers.mono | apply lr | apply ln | apply li | refine lb ?_ fun _ => ?_)
theorem workflow_only_Producers.mono : ∀ a0 a1 a2 k, LeO (workflow_only_Producers.f k a0 a1 a2) (workflow_only_Producers.f (k + 1) a0 a1 a2) := by
 intro a0 a1 a2 k
 have ih0 := workflow_only_Producers.mono_l k
 unfold workflow_only_Producers.f
 repeat' first | (with_reducible first | apply ih0 | apply net_Check.mono | apply net_Producers.mono | apply lr | apply ln | apply li | refine lb ?_ fun _ => ?_)
set_option maxHeartbeats 8000000 in
set_option maxRecDepth 100000 in
theorem workflow_only_Producers.calls (k : Nat) (a0_0 : ByteArray) (A0_1 : Option Addr) (c0_1 : Nat) (l0_1 : List (S52)) (A0_2 : Option Addr) (c0_2 : Nat) (l0_2 : List (S48)) (r1 : Int) (r2 : Bool) (w : World) (hr0_1 : Kd.C k52 w A0_1 l0_1.length l0_1) (hc0_1 : l0_1.length ≤ c0_1) (hr0_2 : Kd.C k48 w A0_2 l0_2.length l0_2) (hc0_2 : l0_2.length ≤ c0_2) (h : workflow_only_Producers.f k a0_0 l0_1 l0_2 = some (r1, r2)) :
  Calls Try.prog 35 #[.agg #[.string a0_0, .slice A0_1 l0_1.length c0_1, .slice A0_2 l0_2.length c0_2], .func (.func 29) #[] #[]] w fun e w' => e = .returned (.tuple #[.int .i64 r1, .bool r2]) ∧ Below w.heap.size w w' := by
 have hf60_0 : ∀ (x0 x1 : Value) (W : World), (Instr.field 60 (.agg #[x0, x1]) 0).run Try.prog W = .ok x0 W := fun x0 x1 W => by kernel_rfl
 have hu25 := Try.underlying25
 have HR0_1 := am hr0_1
 have HC0_1 := am hc0_1
 clear hr0_1 hc0_1
 have HR0_2 := am hr0_2
 have HC0_2 := am hc0_2
 clear hr0_2 hc0_2
 have HB := am (Below.refl w.heap.size w)
 have H : ((net_Check.f k a0_0 l0_1 l0_2).bind fun bt122 => (if bt122.1 = 0 then (workflow_only_Producers.l0 k (-1) (l0_1.length : Int) 0 a0_0 l0_1 l0_2) else (some ((-1), false)))) = some (r1, r2) := h
 clear h
 replace H := bnd H
 obtain ⟨⟨t122, t123⟩, A2, H⟩ := H
 (try dsimp only at H)
 by_cases c3 : t122 = 0
 rotate_left
 ·rw [if_neg c3] at H
  have c3b0 : (t122 == 0) = false := beq_eq_false_iff_ne.mpr c3
  have c3b1 : (t122 != 0) = true := bne_iff_ne.mpr c3
  simp only [Option.some.injEq, Prod.mk.injEq] at H
  obtain ⟨rfl, rfl⟩ := H
  go_enter Try.func35, Try.ntmps35
  go_wp2_with (first | ((with_reducible refine gate_dst (N := 2) rfl ?_); refine box_ev (N := 2) (cs := #[.string a0_0, .slice A0_1 l0_1.length c0_1, .slice A0_2 l0_2.length c0_2]) (t := 25) ?_; intro gb121 hg w21 hbox hb; have BK121 := am hbox; have GW121 := gwl hg; have GE121 := GW121; replace HB := bsl hb; clear hb hbox hg; obtain ⟨z22_0, z22_1, z22_2, y22_0, y22_1, y22_2⟩ := cf3 BK121.1) | ((with_reducible refine gate_callee (f := 37) rfl ?_); refine gC 9 Try.func37 _ (net_Check.calls k a0_0 _ _ l0_1 _ _ l0_2 t122 t123 _ (csb HR0_1 HB) HC0_1.1 (csb HR0_2 HB) HC0_2.1 A2.1) ?_; rintro e w23 ⟨rfl, hb⟩; refine ⟨_, rfl, ?_⟩; replace BK121 := bbh BK121 hb; replace HB := bst hb; (try clear hb)))
  go_ret2
  exact ⟨per, pbg⟩
 rw [if_pos c3] at H
 have c3b0 : (t122 == 0) = true := beq_iff_eq.mpr c3
 have c3b1 : (t122 != 0) = false := bne_eq_false_iff_eq.mpr c3
 clear c3
 have H' := am H
 clear H
 go_enter Try.func35, Try.ntmps35
 go_wp2_with (first | ((with_reducible refine gate_dst (N := 2) rfl ?_); refine box_ev (N := 2) (cs := #[.string a0_0, .slice A0_1 l0_1.length c0_1, .slice A0_2 l0_2.length c0_2]) (t := 25) ?_; intro gb121 hg w4 hbox hb; have BK121 := am hbox; have GW121 := gwl hg; have GE121 := GW121; replace HB := bsl hb; clear hb hbox hg; obtain ⟨z5_0, z5_1, z5_2, y5_0, y5_1, y5_2⟩ := cf3 BK121.1) | ((with_reducible refine gate_callee (f := 37) rfl ?_); refine gC 9 Try.func37 _ (net_Check.calls k a0_0 _ _ l0_1 _ _ l0_2 t122 t123 _ (csb HR0_1 HB) HC0_1.1 (csb HR0_2 HB) HC0_2.1 A2.1) ?_; rintro e w6 ⟨rfl, hb⟩; refine ⟨_, rfl, ?_⟩; replace BK121 := bbh BK121 hb; replace HB := bst hb; (try clear hb); obtain ⟨z7_0, z7_1, z7_2, y7_0, y7_1, y7_2⟩ := cf3 BK121.1))
 go_loopg [6, 15] k (fun kq v6 v15 w' => ∃ (x6_1 : Int) (x15_1 : Int), v6 = .int .i64 x6_1 ∧ v15 = .int .i64 x15_1 ∧ Aside0 (workflow_only_Producers.l0 kq x6_1 (l0_1.length : Int) x15_1 a0_0 l0_1 l0_2 = some (r1, r2)) ∧ Aside0 (kq ≤ k) ∧ Aside0 (w'.heap[gb121]? = some (.cells #[.string a0_0, (.slice A0_1 l0_1.length c0_1), (.slice A0_2 l0_2.length c0_2)] 25 (0, 0))) ∧ Aside0 (Below w.heap.size w w'))
 case atStart => exact ⟨((-1)), (0), prs, prs, H', ⟨Nat.le_refl _⟩, ⟨pbk BK121.1⟩, ⟨pbg⟩⟩
 clear H'
 try clear c3 c3b0 c3b1 z5_0 z5_1 z5_2 z7_0 z7_1 z7_2 y5_0 y5_1 y5_2 y7_0 y7_1 y7_2
 obtain ⟨x6_1, x15_1, rfl, rfl, HA, HK1, BK121, HB⟩ := hrel
 obtain _ | k1 := gk
 ·exact absurd HA.1 (by simp [workflow_only_Producers.l0])
 have H := HA.1
 clear HA
 simp only [workflow_only_Producers.l0] at H
 by_cases c8 : x15_1 < (l0_1.length : Int)
 rotate_left
 ·rw [if_neg c8] at H
  have c8b0 : decide (x15_1 < (l0_1.length : Int)) = false := decide_eq_false c8
  clear c8
  simp only [Option.some.injEq, Prod.mk.injEq] at H
  obtain ⟨rfl, rfl⟩ := H
  go_wp2
  go_ret2
  exact ⟨per, pbg⟩
 rw [if_pos c8] at H
 have c8b0 : decide (x15_1 < (l0_1.length : Int)) = true := decide_eq_true c8
 clear c8
 replace H := bnd H
 obtain ⟨t124, A9, H⟩ := H
 (try dsimp only at H)
 by_cases c10 : (t124.length : Int) > 0
 ·rw [if_pos c10] at H
  have c10b0 : decide (0 < (t124.length : Int)) = true := decide_eq_true c10
  have c10b1 : decide (0 < t124.length) = true := decide_eq_true (by omega)
  clear c10
  have H' := am H
  clear H
  obtain ⟨z11_0, z11_1, z11_2, y11_0, y11_1, y11_2⟩ := cf3 BK121.1
  go_wp2_with (first | (go_at_call 29; (with_reducible refine (net_Producers.calls k1 a0_0 _ _ l0_1 _ _ l0_2 x15_1 t124 _ ?side1 ?side2 ?side3 ?side4 A9.1).mono ?_); (case side1 => exact csb HR0_1 HB); (case side2 => exact HC0_1.1); (case side3 => exact csb HR0_2 HB); (case side4 => exact HC0_2.1); rintro e w12 ⟨v125, rfl, ho0, hb⟩; have HO126 := am (Kd.R_lower ho0 (below_size pbg)); replace BK121 := bbh BK121 hb; replace HB := bst hb; (try clear hb); (try clear ho0); obtain ⟨Ao13, co13, eo13⟩ := Kd.R_slice HO126.1; subst eo13))
  go_roundg k1
  case measure => have := HK1.1; omega
  case rel => exact ⟨(x6_1), (wrap64 (x15_1 + 1)), prs, prs, H', ⟨by have := HK1.1; omega⟩, ⟨pbk BK121.1⟩, ⟨pbg⟩⟩
 rw [if_neg c10] at H
 have c10b0 : decide (0 < (t124.length : Int)) = false := decide_eq_false c10
 have c10b1 : decide (0 < t124.length) = false := decide_eq_false (by omega)
 clear c10
 by_cases c14 : x6_1 ≥ 0
 ·rw [if_pos c14] at H
  have c14b0 : decide (0 ≤ x6_1) = true := decide_eq_true c14
  clear c14
  simp only [Option.some.injEq, Prod.mk.injEq] at H
  obtain ⟨rfl, rfl⟩ := H
  obtain ⟨z15_0, z15_1, z15_2, y15_0, y15_1, y15_2⟩ := cf3 BK121.1
  go_wp2_with (first | (go_at_call 29; (with_reducible refine (net_Producers.calls k1 a0_0 _ _ l0_1 _ _ l0_2 x15_1 t124 _ ?side1 ?side2 ?side3 ?side4 A9.1).mono ?_); (case side1 => exact csb HR0_1 HB); (case side2 => exact HC0_1.1); (case side3 => exact csb HR0_2 HB); (case side4 => exact HC0_2.1); rintro e w16 ⟨v125, rfl, ho0, hb⟩; have HO126 := am (Kd.R_lower ho0 (below_size pbg)); replace BK121 := bbh BK121 hb; replace HB := bst hb; (try clear hb); (try clear ho0); obtain ⟨Ao17, co17, eo17⟩ := Kd.R_slice HO126.1; subst eo17))
  go_ret2
  exact ⟨per, pbg⟩
 rw [if_neg c14] at H
 have c14b0 : decide (0 ≤ x6_1) = false := decide_eq_false c14
 clear c14
 have H' := am H
 clear H
 obtain ⟨z18_0, z18_1, z18_2, y18_0, y18_1, y18_2⟩ := cf3 BK121.1
 go_wp2_with (first | (go_at_call 29; (with_reducible refine (net_Producers.calls k1 a0_0 _ _ l0_1 _ _ l0_2 x15_1 t124 _ ?side1 ?side2 ?side3 ?side4 A9.1).mono ?_); (case side1 => exact csb HR0_1 HB); (case side2 => exact HC0_1.1); (case side3 => exact csb HR0_2 HB); (case side4 => exact HC0_2.1); rintro e w19 ⟨v125, rfl, ho0, hb⟩; have HO126 := am (Kd.R_lower ho0 (below_size pbg)); replace BK121 := bbh BK121 hb; replace HB := bst hb; (try clear hb); (try clear ho0); obtain ⟨Ao20, co20, eo20⟩ := Kd.R_slice HO126.1; subst eo20))
 go_roundg k1
 case measure => have := HK1.1; omega
 case rel => exact ⟨(x15_1), (wrap64 (x15_1 + 1)), prs, prs, H', ⟨by have := HK1.1; omega⟩, ⟨pbk BK121.1⟩, ⟨pbg⟩⟩

/-! ### workflow_Source: function 12 -/
def workflow_Source.f (k : Nat) (a0_0 : ByteArray) (l0_1 : List (S52)) (l0_2 : List (S48)) : Option (Int × Bool) := (workflow_only_Producers.f k a0_0 l0_1 l0_2).bind fun bt128 => (some (bt128.1, bt128.2))
theorem workflow_Source.mono : ∀ a0 a1 a2 k, LeO (workflow_Source.f k a0 a1 a2) (workflow_Source.f (k + 1) a0 a1 a2) := by
 intro a0 a1 a2 k
 unfold workflow_Source.f
 repeat' first | (with_reducible first | apply workflow_only_Producers.mono | apply lr | apply ln | apply li | refine lb ?_ fun _ => ?_)
set_option maxHeartbeats 8000000 in
set_option maxRecDepth 100000 in
theorem workflow_Source.calls (k : Nat) (a0_0 : ByteArray) (A0_1 : Option Addr) (c0_1 : Nat) (l0_1 : List (S52)) (A0_2 : Option Addr) (c0_2 : Nat) (l0_2 : List (S48)) (r1 : Int) (r2 : Bool) (w : World) (hr0_1 : Kd.C k52 w A0_1 l0_1.length l0_1) (hc0_1 : l0_1.length ≤ c0_1) (hr0_2 : Kd.C k48 w A0_2 l0_2.length l0_2) (hc0_2 : l0_2.length ≤ c0_2) (h : workflow_Source.f k a0_0 l0_1 l0_2 = some (r1, r2)) :
  Calls Try.prog 12 #[.agg #[.string a0_0, .slice A0_1 l0_1.length c0_1, .slice A0_2 l0_2.length c0_2]] w fun e w' => e = .returned (.tuple #[.int .i64 r1, .bool r2]) ∧ Below w.heap.size w w' := by
 have hu25 := Try.underlying25
 have HR0_1 := am hr0_1
 have HC0_1 := am hc0_1
 clear hr0_1 hc0_1
 have HR0_2 := am hr0_2
 have HC0_2 := am hc0_2
 clear hr0_2 hc0_2
 have HB := am (Below.refl w.heap.size w)
 have H : ((workflow_only_Producers.f k a0_0 l0_1 l0_2).bind fun bt128 => (some (bt128.1, bt128.2))) = some (r1, r2) := h
 clear h
 replace H := bnd H
 obtain ⟨⟨t128, t129⟩, A2, H⟩ := H
 (try dsimp only at H)
 simp only [Option.some.injEq, Prod.mk.injEq] at H
 obtain ⟨rfl, rfl⟩ := H
 go_enter Try.func12, Try.ntmps12
 go_wp2_with (first | ((with_reducible refine gate_dst (N := 1) rfl ?_); refine box_ev (N := 1) (cs := #[.string a0_0, .slice A0_1 l0_1.length c0_1, .slice A0_2 l0_2.length c0_2]) (t := 25) ?_; intro gb127 hg w3 hbox hb; have BK127 := am hbox; have GW127 := gwl hg; have GE127 := GW127; replace HB := bsl hb; clear hb hbox hg; obtain ⟨z4_0, z4_1, z4_2, y4_0, y4_1, y4_2⟩ := cf3 BK127.1) | ((with_reducible refine gate_callee (f := 35) rfl ?_); refine gC 5 Try.func35 _ (workflow_only_Producers.calls k a0_0 _ _ l0_1 _ _ l0_2 t128 t129 _ (csb HR0_1 HB) HC0_1.1 (csb HR0_2 HB) HC0_2.1 A2.1) ?_; rintro e w5 ⟨rfl, hb⟩; refine ⟨_, rfl, ?_⟩; replace BK127 := bbh BK127 hb; replace HB := bst hb; (try clear hb)))
 go_ret2
 exact ⟨per, pbg⟩

/-! ### net_Consumers: function 30 -/
-- IMPORTS Derived.RegionTactic,Derived.BigRegion,Derived.Laws.EntriesVeiled
theorem arcs_Consumers (w : World) (s : ByteArray) (v1 v2 v3 : Value) (x : Int) : Calls Try.prog 51 #[.agg #[.string s, v1, v2, v3, .int .i64 x]] w fun e w' => e = .returned v1 ∧ Below w.heap.size w w' := by
 have hu := Try.underlying48
 obtain ⟨c0, c1, c2, c3, c4⟩ := trans_facts (alloc_new w (.cells #[.string s, v1, v2, v3, .int .i64 x] 48))
 go_enter Try.func51, Try.ntmps51
 go_wp2
 go_ret
 exact ⟨rfl, below_alloc (Below.refl _ _) _⟩
def net_Consumers.l0 : Nat → List S48 → Int → List Int → Int → Option (List Int)
 | 0, _, _, _, _ => none
 | k + 1, l2, p, out, i => if i < (l2.length : Int) then (if 0 ≤ i then ((net_weight.f k (rd_T48 l2 i).f1 p).bind fun t => if t > 0 then (if out.length < 17592186044416 then net_Consumers.l0 k l2 p (out ++ [i]) (wrap64 (i + 1)) else none) else net_Consumers.l0 k l2 p out (wrap64 (i + 1))) else none) else some out
def net_Consumers.f (k : Nat) (a0_0 : ByteArray) (l0_1 : List (S52)) (l0_2 : List (S48)) (a1 : Int) : Option (List Int) := (net_valid.f k a0_0 l0_1 l0_2).bind fun t => if t = true then net_Consumers.l0 k l0_2 a1 [] 0 else some []
theorem net_Consumers.mono_l : ∀ k y0 y1 y2 y3, LeO (net_Consumers.l0 k y0 y1 y2 y3) (net_Consumers.l0 (k + 1) y0 y1 y2 y3)
 | 0 => fun _ _ _ _ r h => by simp [net_Consumers.l0] at h
 | k + 1 => by
  have ih0 := net_Consumers.mono_l k
  intro y0 y1 y2 y3
  unfold net_Consumers.l0
  repeat' first | exact ih0 _ _ _ _ | exact net_weight.mono _ _ _ | exact LeO.refl _ | exact LeO.none _ | refine LeO.ite ?_ ?_ | refine LeO.bind (net_weight.mono _ _ _) (fun _ => ?_)
theorem net_Consumers.mono : ∀ a0 a1 a2 a3 k, LeO (net_Consumers.f k a0 a1 a2 a3) (net_Consumers.f (k + 1) a0 a1 a2 a3) := by
 intro a0 a1 a2 a3 k
 unfold net_Consumers.f
 exact LeO.bind (net_valid.mono _ _ _ _) (fun _ => LeO.ite (net_Consumers.mono_l k _ _ _ _) (LeO.refl _))
set_option maxHeartbeats 4000000 in
set_option maxRecDepth 100000 in
theorem users_Consumers (k : Nat) (a0_0 : ByteArray) (A0_1 : Option Addr) (c0_1 : Nat) (l0_1 : List (S52)) (A0_2 : Option Addr) (c0_2 : Nat) (l0_2 : List (S48)) (a1 : Int) (r : List Int) (w : World) (hr0_1 : Kd.C k52 w A0_1 l0_1.length l0_1) (hc0_1 : l0_1.length ≤ c0_1) (hr0_2 : Kd.C k48 w A0_2 l0_2.length l0_2) (hc0_2 : l0_2.length ≤ c0_2) (h : net_Consumers.f k a0_0 l0_1 l0_2 a1 = some r) :
  Calls Try.prog 49 #[.agg #[.string a0_0, .slice A0_1 l0_1.length c0_1, .slice A0_2 l0_2.length c0_2], .int .i64 a1, .func (.func 51) #[] #[]] w fun e w' => ∃ v0_ : Value, e = .returned (v0_) ∧ Kd.R (Kd.int .i64) 3 w' w.heap.size (fun _ => True) v0_ r ∧ Below w.heap.size w w' := by
 have hu1 := Try.underlying25
 have hu2 := Try.underlying48
 have HR1 := Aside0.mk hr0_1
 have HC1 := Aside0.mk hc0_1
 have HR2 := Aside0.mk hr0_2
 have HC2 := Aside0.mk hc0_2
 clear hr0_1 hc0_1 hr0_2 hc0_2
 unfold net_Consumers.f at h
 obtain ⟨t, ht, h⟩ := Option.bind_eq_some_iff.mp h
 have HV := Aside0.mk ht
 have HX := Aside0.mk (alloc_new w (.cells #[.string a0_0, .slice A0_1 l0_1.length c0_1, .slice A0_2 l0_2.length c0_2] 25))
 have HB := Aside0.mk (show Below w.heap.size w (w.alloc (.cells #[.string a0_0, .slice A0_1 l0_1.length c0_1, .slice A0_2 l0_2.length c0_2] 25)) from below_alloc (Below.refl _ _) _)
 obtain ⟨cx0, cx1, cx2⟩ := net_facts HX.out
 clear ht
 cases t with
 | false =>
  rw [if_neg Bool.false_ne_true] at h
  obtain rfl := Option.some.inj h
  go_enter Try.func49, Try.ntmps49
  go_wp2_with (first | (go_at_call 52; refine (net_valid.calls k _ _ _ _ _ _ _ _ _ (Kd.C_below HR1.out HB.out) HC1.out (Kd.C_below HR2.out HB.out) HC2.out HV.out).mono ?_; rintro e w3 ⟨rfl, hb⟩; have HB3 := Aside0.mk (HB.out.trans (hb.mono HB.out.size)); clear hb))
  go_ret
  exact ⟨_, rfl, Kd.R_nil _ _ _ _ _, HB3.out⟩
 | true =>
  rw [if_pos rfl] at h
  have H := Aside0.mk h
  clear h
  go_enter Try.func49, Try.ntmps49
  go_wp2_with (first | (go_at_call 52; refine (net_valid.calls k _ _ _ _ _ _ _ _ _ (Kd.C_below HR1.out HB.out) HC1.out (Kd.C_below HR2.out HB.out) HC2.out HV.out).mono ?_; rintro e w3 ⟨rfl, hb⟩; have HB3 := Aside0.mk (HB.out.trans (hb.mono HB.out.size)); obtain ⟨dx0, dx1, dx2⟩ := net_facts (blk_below HX.out hb); clear hb))
  clear dx0 dx1 dx2 cx0 cx1 cx2 HX HB HV
  go_loopg [7, 16] k (fun kq v7 v16 w' => ∃ (i : Int) (out : List Int), v16 = .int .i64 i ∧ Aside0 (net_Consumers.l0 kq l0_2 a1 out i = some r) ∧ Aside0 (kq ≤ k) ∧ Aside0 (Kd.R (Kd.int .i64) 3 w' w.heap.size (fun _ => True) v7 out) ∧ Aside0 (Below w.heap.size w w'))
  case atStart => exact ⟨0, [], rfl, H, ⟨Nat.le_refl _⟩, ⟨Kd.R_nil _ _ _ _ _⟩, HB3⟩
  case round =>
   clear H HB3
   obtain ⟨i, out, rfl, HA, HJ, HO, HB⟩ := hrel
   cases gk with
   | zero => exact absurd HA.out (by simp [net_Consumers.l0])
   | succ k1 =>
   have H := HA.out
   clear HA
   simp only [net_Consumers.l0] at H
   by_cases d1 : i < (l0_2.length : Int)
   case neg =>
    rw [if_neg d1] at H
    have d1b : decide (i < (l0_2.length : Int)) = false := decide_eq_false d1
    obtain rfl := Option.some.inj H
    clear d1
    go_wp2
    go_ret
    exact ⟨_, rfl, HO.out, HB.out⟩
   rw [if_pos d1] at H
   have d1b : decide (i < (l0_2.length : Int)) = true := decide_eq_true d1
   by_cases d2 : 0 ≤ i
   case neg => rw [if_neg d2] at H; cases H
   rw [if_pos d2] at H
   obtain ⟨t, ht, H⟩ := Option.bind_eq_some_iff.mp H
   have HT := Aside0.mk ht
   clear ht
   obtain ⟨ad, A1, c1, A2, c2, A3, c3, eA, y0, y1, y2, y3, y4, m1, g1, m2, g2, m3, g3⟩ := at_T48 HR2.out i d2 d1
   subst eA
   have u0 := pw_cell_below HB.out y0
   have u1 := pw_cell_below HB.out y1
   have u2 := pw_cell_below HB.out y2
   have u3 := pw_cell_below HB.out y3
   have u4 := pw_cell_below HB.out y4
   clear y0 y1 y2 y3 y4
   have M := Aside0.mk m1
   have G := Aside0.mk g1
   clear m1 m2 m3 g1 g2 g3
   have q1 : (0 ≤ i) = True := eq_true d2
   have q2 : (i < (l0_2.length : Int)) = True := eq_true d1
   have HPl := Aside0.mk (alloc_new wr (.cells #[.string (rd_T48 l0_2 i).f0, .slice A1 (rd_T48 l0_2 i).f1.length c1, .slice A2 (rd_T48 l0_2 i).f2.length c2, .slice A3 (rd_T48 l0_2 i).f3.length c3, .int .i64 (rd_T48 l0_2 i).f4] 48))
   have HB1 := Aside0.mk (show Below wr.heap.size wr (wr.alloc (.cells #[.string (rd_T48 l0_2 i).f0, .slice A1 (rd_T48 l0_2 i).f1.length c1, .slice A2 (rd_T48 l0_2 i).f2.length c2, .slice A3 (rd_T48 l0_2 i).f3.length c3, .int .i64 (rd_T48 l0_2 i).f4] 48)) from below_alloc (Below.refl _ _) _)
   obtain ⟨v0, v1, v2, v3, v4⟩ := trans_facts HPl.out
   have HM := Aside0.mk (show (l0_2.length : Int) ≤ 9223372036854775807 by have := HR2.out.2.1; omega)
   by_cases d3 : t > 0
   ·rw [if_pos d3] at H
    have d3b : decide (0 < t) = true := decide_eq_true d3
    by_cases d4 : out.length < 17592186044416
    case neg => rw [if_neg d4] at H; cases H
    rw [if_pos d4, show wrap64 (i + 1) = i + 1 by have := HM.out; unfold wrap64; omega] at H
    have H' := Aside0.mk H
    have D4 := Aside0.mk d4
    clear H d3 d4
    go_wp2_with (first
     | (go_at_call 51; refine (arcs_Consumers _ _ _ _ _ _).mono ?_; rintro e w4 ⟨rfl, hb⟩; have HB4 := Aside0.mk (HB1.out.trans (hb.mono HB1.out.size)); clear hb)
     | (go_at_call 71; refine (net_weight.calls k1 _ _ _ _ _ _ (Kd.C_below G.out (HB.out.trans (HB4.out.mono HB.out.size))) M.out HT.out).mono ?_; rintro e w5 ⟨rfl, hb⟩; have HB5 := Aside0.mk (HB4.out.trans (hb.mono HB4.out.size)); have HO5 := Aside0.mk (Kd.R_below HO.out HB5.out); clear hb)
     | ((with_reducible refine gate_builtin (b := .append) (xs := #[.tmp 27, .tmp 29]) rfl ?_); at_builtin; refine Kd.R_append (Kd.int .i64) (w0 := w) w.heap.size rfl (.tmp 27) (.tmp 29) 39 3 (.int .i64 0) 8 rfl Try.underlying39 info3 rfl (by decide) (by omega) _ out i [.int .i64 i] (fun _ => True) (fun _ => False) rfl rfl ?aP (fun _ hk => hk.elim) ?aF ?aO ?aB ?aS ?aL ?_; (case aP => exact rfl); (case aF => exact (fun _ _ => trivial)); (case aO => exact HO5.out); (case aB => exact (HB.out.trans (HB5.out.mono HB.out.size))); (case aS => exact Nat.le_trans HB.out.size HB5.out.size); (case aL => have := D4.out; omega); intro v2 w2 ho hb hg hat; have HO6 := Aside0.mk ho; have HB6 := Aside0.mk hb; clear ho hb hg hat))
    go_roundg k1
    case measure => have := HJ.out; omega
    case rel => exact ⟨_, _, (by congr 1; have := HM.out; (first | omega | (unfold wrap64; omega) | (show wrap64 _ = _; unfold wrap64; omega))), H', ⟨by have := HJ.out; omega⟩, HO6, HB6⟩
   ·rw [if_neg d3, show wrap64 (i + 1) = i + 1 by have := HM.out; unfold wrap64; omega] at H
    have d3b : decide (0 < t) = false := decide_eq_false d3
    have H' := Aside0.mk H
    clear H d3
    go_wp2_with (first
     | (go_at_call 51; refine (arcs_Consumers _ _ _ _ _ _).mono ?_; rintro e w4 ⟨rfl, hb⟩; have HB4 := Aside0.mk (HB1.out.trans (hb.mono HB1.out.size)); clear hb)
     | (go_at_call 71; refine (net_weight.calls k1 _ _ _ _ _ _ (Kd.C_below G.out (HB.out.trans (HB4.out.mono HB.out.size))) M.out HT.out).mono ?_; rintro e w5 ⟨rfl, hb⟩; have HB5 := Aside0.mk (HB4.out.trans (hb.mono HB4.out.size)); clear hb))
    go_roundg k1
    case measure => have := HJ.out; omega
    case rel => exact ⟨_, _, (by congr 1; have := HM.out; (first | omega | (unfold wrap64; omega) | (show wrap64 _ = _; unfold wrap64; omega))), H', ⟨by have := HJ.out; omega⟩, ⟨Kd.R_below HO.out HB5.out⟩, ⟨HB.out.trans (HB5.out.mono HB.out.size)⟩⟩
theorem net_Consumers.calls (k : Nat) (a0_0 : ByteArray) (A0_1 : Option Addr) (c0_1 : Nat) (l0_1 : List (S52)) (A0_2 : Option Addr) (c0_2 : Nat) (l0_2 : List (S48)) (a1 : Int) (r : List Int) (w : World) (hr0_1 : Kd.C k52 w A0_1 l0_1.length l0_1) (hc0_1 : l0_1.length ≤ c0_1) (hr0_2 : Kd.C k48 w A0_2 l0_2.length l0_2) (hc0_2 : l0_2.length ≤ c0_2) (h : net_Consumers.f k a0_0 l0_1 l0_2 a1 = some r) :
  Calls Try.prog 30 #[.agg #[.string a0_0, .slice A0_1 l0_1.length c0_1, .slice A0_2 l0_2.length c0_2], .int .i64 a1] w fun e w' => ∃ v0_ : Value, e = .returned (v0_) ∧ Kd.R (Kd.int .i64) 3 w' w.heap.size (fun _ => True) v0_ r ∧ Below w.heap.size w w' := by
 have hu1 := Try.underlying25
 have HB := Aside0.mk (show Below w.heap.size w (w.alloc (.cells #[.string a0_0, .slice A0_1 l0_1.length c0_1, .slice A0_2 l0_2.length c0_2] 25)) from below_alloc (Below.refl _ _) _)
 have HR1 := Aside0.mk (Kd.C_below hr0_1 HB.out)
 have HC1 := Aside0.mk hc0_1
 have HR2 := Aside0.mk (Kd.C_below hr0_2 HB.out)
 have HC2 := Aside0.mk hc0_2
 have H := Aside0.mk h
 obtain ⟨cx0, cx1, cx2⟩ := net_facts (alloc_new w (.cells #[.string a0_0, .slice A0_1 l0_1.length c0_1, .slice A0_2 l0_2.length c0_2] 25))
 clear hr0_1 hc0_1 hr0_2 hc0_2 h
 go_enter Try.func30, Try.ntmps30
 go_wp2_with (first | (go_at_call 49; refine (users_Consumers k _ _ _ _ _ _ _ _ _ _ HR1.out HC1.out HR2.out HC2.out H.out).mono ?_; rintro e w3 ⟨v3, rfl, ho, hb⟩; have HO := Aside0.mk (Kd.R_lower ho HB.out.size); have HB3 := Aside0.mk (HB.out.trans (hb.mono HB.out.size)); clear ho hb))
 go_ret
 exact ⟨_, rfl, HO.out, HB3.out⟩

/-! ### workflow_only_Consumers: function 99 -/
def workflow_only_Consumers.l0 : Nat → Int → Int → Int → ByteArray → List (S52) → List (S48) → Option (Int × Bool)
 | 0, _, _, _, _, _, _ => none
 | k + 1, x6, x14, x15, x131000, x131001, x131002 => if x15 < x14 then ((net_Consumers.f k x131000 x131001 x131002 x15).bind fun t133 => (if (t133.length : Int) > 0 then (workflow_only_Consumers.l0 k x6 x14 (wrap64 (x15 + 1)) x131000 x131001 x131002) else (if x6 ≥ 0 then (some ((-1), false)) else (workflow_only_Consumers.l0 k x15 x14 (wrap64 (x15 + 1)) x131000 x131001 x131002)))) else (some (x6, decide (x6 ≥ 0)))
def workflow_only_Consumers.f (k : Nat) (a0_0 : ByteArray) (l0_1 : List (S52)) (l0_2 : List (S48)) : Option (Int × Bool) := (net_Check.f k a0_0 l0_1 l0_2).bind fun bt131 => (if bt131.1 = 0 then (workflow_only_Consumers.l0 k (-1) (l0_1.length : Int) 0 a0_0 l0_1 l0_2) else (some ((-1), false)))
theorem workflow_only_Consumers.mono_l : ∀ k, M6 workflow_only_Consumers.l0 k
 | 0 => fun _ _ _ _ _ _ r h => by simp [workflow_only_Consumers.l0] at h
 | k + 1 => by
  have ih0 := workflow_only_Consumers.mono_l k
  ·intro y0 y1 y2 y3 y4 y5
   unfold workflow_only_Consumers.l0
   repeat' first | (with_reducible first | apply ih0 | apply net_Check.mono | apply net_Consumers.mono | apply lr | apply ln | apply li | refine lb ?_ fun _ => ?_)
theorem workflow_only_Consumers.mono : ∀ a0 a1 a2 k, LeO (workflow_only_Consumers.f k a0 a1 a2) (workflow_only_Consumers.f (k + 1) a0 a1 a2) := by
 intro a0 a1 a2 k
 have ih0 := workflow_only_Consumers.mono_l k
 unfold workflow_only_Consumers.f
 repeat' first | (with_reducible first | apply ih0 | apply net_Check.mono | apply net_Consumers.mono | apply lr | apply ln | apply li | refine lb ?_ fun _ => ?_)
set_option maxHeartbeats 8000000 in
set_option maxRecDepth 100000 in
theorem workflow_only_Consumers.calls (k : Nat) (a0_0 : ByteArray) (A0_1 : Option Addr) (c0_1 : Nat) (l0_1 : List (S52)) (A0_2 : Option Addr) (c0_2 : Nat) (l0_2 : List (S48)) (r1 : Int) (r2 : Bool) (w : World) (hr0_1 : Kd.C k52 w A0_1 l0_1.length l0_1) (hc0_1 : l0_1.length ≤ c0_1) (hr0_2 : Kd.C k48 w A0_2 l0_2.length l0_2) (hc0_2 : l0_2.length ≤ c0_2) (h : workflow_only_Consumers.f k a0_0 l0_1 l0_2 = some (r1, r2)) :
  Calls Try.prog 35 #[.agg #[.string a0_0, .slice A0_1 l0_1.length c0_1, .slice A0_2 l0_2.length c0_2], .func (.func 30) #[] #[]] w fun e w' => e = .returned (.tuple #[.int .i64 r1, .bool r2]) ∧ Below w.heap.size w w' := by
 have hf60_0 : ∀ (x0 x1 : Value) (W : World), (Instr.field 60 (.agg #[x0, x1]) 0).run Try.prog W = .ok x0 W := fun x0 x1 W => by kernel_rfl
 have hu25 := Try.underlying25
 have HR0_1 := am hr0_1
 have HC0_1 := am hc0_1
 clear hr0_1 hc0_1
 have HR0_2 := am hr0_2
 have HC0_2 := am hc0_2
 clear hr0_2 hc0_2
 have HB := am (Below.refl w.heap.size w)
 have H : ((net_Check.f k a0_0 l0_1 l0_2).bind fun bt131 => (if bt131.1 = 0 then (workflow_only_Consumers.l0 k (-1) (l0_1.length : Int) 0 a0_0 l0_1 l0_2) else (some ((-1), false)))) = some (r1, r2) := h
 clear h
 replace H := bnd H
 obtain ⟨⟨t131, t132⟩, A2, H⟩ := H
 (try dsimp only at H)
 by_cases c3 : t131 = 0
 rotate_left
 ·rw [if_neg c3] at H
  have c3b0 : (t131 == 0) = false := beq_eq_false_iff_ne.mpr c3
  have c3b1 : (t131 != 0) = true := bne_iff_ne.mpr c3
  simp only [Option.some.injEq, Prod.mk.injEq] at H
  obtain ⟨rfl, rfl⟩ := H
  go_enter Try.func35, Try.ntmps35
  go_wp2_with (first | ((with_reducible refine gate_dst (N := 2) rfl ?_); refine box_ev (N := 2) (cs := #[.string a0_0, .slice A0_1 l0_1.length c0_1, .slice A0_2 l0_2.length c0_2]) (t := 25) ?_; intro gb130 hg w21 hbox hb; have BK130 := am hbox; have GW130 := gwl hg; have GE130 := GW130; replace HB := bsl hb; clear hb hbox hg; obtain ⟨z22_0, z22_1, z22_2, y22_0, y22_1, y22_2⟩ := cf3 BK130.1) | ((with_reducible refine gate_callee (f := 37) rfl ?_); refine gC 9 Try.func37 _ (net_Check.calls k a0_0 _ _ l0_1 _ _ l0_2 t131 t132 _ (csb HR0_1 HB) HC0_1.1 (csb HR0_2 HB) HC0_2.1 A2.1) ?_; rintro e w23 ⟨rfl, hb⟩; refine ⟨_, rfl, ?_⟩; replace BK130 := bbh BK130 hb; replace HB := bst hb; (try clear hb)))
  go_ret2
  exact ⟨per, pbg⟩
 rw [if_pos c3] at H
 have c3b0 : (t131 == 0) = true := beq_iff_eq.mpr c3
 have c3b1 : (t131 != 0) = false := bne_eq_false_iff_eq.mpr c3
 clear c3
 have H' := am H
 clear H
 go_enter Try.func35, Try.ntmps35
 go_wp2_with (first | ((with_reducible refine gate_dst (N := 2) rfl ?_); refine box_ev (N := 2) (cs := #[.string a0_0, .slice A0_1 l0_1.length c0_1, .slice A0_2 l0_2.length c0_2]) (t := 25) ?_; intro gb130 hg w4 hbox hb; have BK130 := am hbox; have GW130 := gwl hg; have GE130 := GW130; replace HB := bsl hb; clear hb hbox hg; obtain ⟨z5_0, z5_1, z5_2, y5_0, y5_1, y5_2⟩ := cf3 BK130.1) | ((with_reducible refine gate_callee (f := 37) rfl ?_); refine gC 9 Try.func37 _ (net_Check.calls k a0_0 _ _ l0_1 _ _ l0_2 t131 t132 _ (csb HR0_1 HB) HC0_1.1 (csb HR0_2 HB) HC0_2.1 A2.1) ?_; rintro e w6 ⟨rfl, hb⟩; refine ⟨_, rfl, ?_⟩; replace BK130 := bbh BK130 hb; replace HB := bst hb; (try clear hb); obtain ⟨z7_0, z7_1, z7_2, y7_0, y7_1, y7_2⟩ := cf3 BK130.1))
 go_loopg [6, 15] k (fun kq v6 v15 w' => ∃ (x6_1 : Int) (x15_1 : Int), v6 = .int .i64 x6_1 ∧ v15 = .int .i64 x15_1 ∧ Aside0 (workflow_only_Consumers.l0 kq x6_1 (l0_1.length : Int) x15_1 a0_0 l0_1 l0_2 = some (r1, r2)) ∧ Aside0 (kq ≤ k) ∧ Aside0 (w'.heap[gb130]? = some (.cells #[.string a0_0, (.slice A0_1 l0_1.length c0_1), (.slice A0_2 l0_2.length c0_2)] 25 (0, 0))) ∧ Aside0 (Below w.heap.size w w'))
 case atStart => exact ⟨((-1)), (0), prs, prs, H', ⟨Nat.le_refl _⟩, ⟨pbk BK130.1⟩, ⟨pbg⟩⟩
 clear H'
 try clear c3 c3b0 c3b1 z5_0 z5_1 z5_2 z7_0 z7_1 z7_2 y5_0 y5_1 y5_2 y7_0 y7_1 y7_2
 obtain ⟨x6_1, x15_1, rfl, rfl, HA, HK1, BK130, HB⟩ := hrel
 obtain _ | k1 := gk
 ·exact absurd HA.1 (by simp [workflow_only_Consumers.l0])
 have H := HA.1
 clear HA
 simp only [workflow_only_Consumers.l0] at H
 by_cases c8 : x15_1 < (l0_1.length : Int)
 rotate_left
 ·rw [if_neg c8] at H
  have c8b0 : decide (x15_1 < (l0_1.length : Int)) = false := decide_eq_false c8
  clear c8
  simp only [Option.some.injEq, Prod.mk.injEq] at H
  obtain ⟨rfl, rfl⟩ := H
  go_wp2
  go_ret2
  exact ⟨per, pbg⟩
 rw [if_pos c8] at H
 have c8b0 : decide (x15_1 < (l0_1.length : Int)) = true := decide_eq_true c8
 clear c8
 replace H := bnd H
 obtain ⟨t133, A9, H⟩ := H
 (try dsimp only at H)
 by_cases c10 : (t133.length : Int) > 0
 ·rw [if_pos c10] at H
  have c10b0 : decide (0 < (t133.length : Int)) = true := decide_eq_true c10
  have c10b1 : decide (0 < t133.length) = true := decide_eq_true (by omega)
  clear c10
  have H' := am H
  clear H
  obtain ⟨z11_0, z11_1, z11_2, y11_0, y11_1, y11_2⟩ := cf3 BK130.1
  go_wp2_with (first | (go_at_call 30; (with_reducible refine (net_Consumers.calls k1 a0_0 _ _ l0_1 _ _ l0_2 x15_1 t133 _ ?side1 ?side2 ?side3 ?side4 A9.1).mono ?_); (case side1 => exact csb HR0_1 HB); (case side2 => exact HC0_1.1); (case side3 => exact csb HR0_2 HB); (case side4 => exact HC0_2.1); rintro e w12 ⟨v134, rfl, ho0, hb⟩; have HO135 := am (Kd.R_lower ho0 (below_size pbg)); replace BK130 := bbh BK130 hb; replace HB := bst hb; (try clear hb); (try clear ho0); obtain ⟨Ao13, co13, eo13⟩ := Kd.R_slice HO135.1; subst eo13))
  go_roundg k1
  case measure => have := HK1.1; omega
  case rel => exact ⟨(x6_1), (wrap64 (x15_1 + 1)), prs, prs, H', ⟨by have := HK1.1; omega⟩, ⟨pbk BK130.1⟩, ⟨pbg⟩⟩
 rw [if_neg c10] at H
 have c10b0 : decide (0 < (t133.length : Int)) = false := decide_eq_false c10
 have c10b1 : decide (0 < t133.length) = false := decide_eq_false (by omega)
 clear c10
 by_cases c14 : x6_1 ≥ 0
 ·rw [if_pos c14] at H
  have c14b0 : decide (0 ≤ x6_1) = true := decide_eq_true c14
  clear c14
  simp only [Option.some.injEq, Prod.mk.injEq] at H
  obtain ⟨rfl, rfl⟩ := H
  obtain ⟨z15_0, z15_1, z15_2, y15_0, y15_1, y15_2⟩ := cf3 BK130.1
  go_wp2_with (first | (go_at_call 30; (with_reducible refine (net_Consumers.calls k1 a0_0 _ _ l0_1 _ _ l0_2 x15_1 t133 _ ?side1 ?side2 ?side3 ?side4 A9.1).mono ?_); (case side1 => exact csb HR0_1 HB); (case side2 => exact HC0_1.1); (case side3 => exact csb HR0_2 HB); (case side4 => exact HC0_2.1); rintro e w16 ⟨v134, rfl, ho0, hb⟩; have HO135 := am (Kd.R_lower ho0 (below_size pbg)); replace BK130 := bbh BK130 hb; replace HB := bst hb; (try clear hb); (try clear ho0); obtain ⟨Ao17, co17, eo17⟩ := Kd.R_slice HO135.1; subst eo17))
  go_ret2
  exact ⟨per, pbg⟩
 rw [if_neg c14] at H
 have c14b0 : decide (0 ≤ x6_1) = false := decide_eq_false c14
 clear c14
 have H' := am H
 clear H
 obtain ⟨z18_0, z18_1, z18_2, y18_0, y18_1, y18_2⟩ := cf3 BK130.1
 go_wp2_with (first | (go_at_call 30; (with_reducible refine (net_Consumers.calls k1 a0_0 _ _ l0_1 _ _ l0_2 x15_1 t133 _ ?side1 ?side2 ?side3 ?side4 A9.1).mono ?_); (case side1 => exact csb HR0_1 HB); (case side2 => exact HC0_1.1); (case side3 => exact csb HR0_2 HB); (case side4 => exact HC0_2.1); rintro e w19 ⟨v134, rfl, ho0, hb⟩; have HO135 := am (Kd.R_lower ho0 (below_size pbg)); replace BK130 := bbh BK130 hb; replace HB := bst hb; (try clear hb); (try clear ho0); obtain ⟨Ao20, co20, eo20⟩ := Kd.R_slice HO135.1; subst eo20))
 go_roundg k1
 case measure => have := HK1.1; omega
 case rel => exact ⟨(x15_1), (wrap64 (x15_1 + 1)), prs, prs, H', ⟨by have := HK1.1; omega⟩, ⟨pbk BK130.1⟩, ⟨pbg⟩⟩

/-! ### workflow_Sink: function 14 -/
def workflow_Sink.f (k : Nat) (a0_0 : ByteArray) (l0_1 : List (S52)) (l0_2 : List (S48)) : Option (Int × Bool) := (workflow_only_Consumers.f k a0_0 l0_1 l0_2).bind fun bt137 => (some (bt137.1, bt137.2))
theorem workflow_Sink.mono : ∀ a0 a1 a2 k, LeO (workflow_Sink.f k a0 a1 a2) (workflow_Sink.f (k + 1) a0 a1 a2) := by
 intro a0 a1 a2 k
 unfold workflow_Sink.f
 repeat' first | (with_reducible first | apply workflow_only_Consumers.mono | apply lr | apply ln | apply li | refine lb ?_ fun _ => ?_)
set_option maxHeartbeats 8000000 in
set_option maxRecDepth 100000 in
theorem workflow_Sink.calls (k : Nat) (a0_0 : ByteArray) (A0_1 : Option Addr) (c0_1 : Nat) (l0_1 : List (S52)) (A0_2 : Option Addr) (c0_2 : Nat) (l0_2 : List (S48)) (r1 : Int) (r2 : Bool) (w : World) (hr0_1 : Kd.C k52 w A0_1 l0_1.length l0_1) (hc0_1 : l0_1.length ≤ c0_1) (hr0_2 : Kd.C k48 w A0_2 l0_2.length l0_2) (hc0_2 : l0_2.length ≤ c0_2) (h : workflow_Sink.f k a0_0 l0_1 l0_2 = some (r1, r2)) :
  Calls Try.prog 14 #[.agg #[.string a0_0, .slice A0_1 l0_1.length c0_1, .slice A0_2 l0_2.length c0_2]] w fun e w' => e = .returned (.tuple #[.int .i64 r1, .bool r2]) ∧ Below w.heap.size w w' := by
 have hu25 := Try.underlying25
 have HR0_1 := am hr0_1
 have HC0_1 := am hc0_1
 clear hr0_1 hc0_1
 have HR0_2 := am hr0_2
 have HC0_2 := am hc0_2
 clear hr0_2 hc0_2
 have HB := am (Below.refl w.heap.size w)
 have H : ((workflow_only_Consumers.f k a0_0 l0_1 l0_2).bind fun bt137 => (some (bt137.1, bt137.2))) = some (r1, r2) := h
 clear h
 replace H := bnd H
 obtain ⟨⟨t137, t138⟩, A2, H⟩ := H
 (try dsimp only at H)
 simp only [Option.some.injEq, Prod.mk.injEq] at H
 obtain ⟨rfl, rfl⟩ := H
 go_enter Try.func14, Try.ntmps14
 go_wp2_with (first | ((with_reducible refine gate_dst (N := 1) rfl ?_); refine box_ev (N := 1) (cs := #[.string a0_0, .slice A0_1 l0_1.length c0_1, .slice A0_2 l0_2.length c0_2]) (t := 25) ?_; intro gb136 hg w3 hbox hb; have BK136 := am hbox; have GW136 := gwl hg; have GE136 := GW136; replace HB := bsl hb; clear hb hbox hg; obtain ⟨z4_0, z4_1, z4_2, y4_0, y4_1, y4_2⟩ := cf3 BK136.1) | ((with_reducible refine gate_callee (f := 35) rfl ?_); refine gC 5 Try.func35 _ (workflow_only_Consumers.calls k a0_0 _ _ l0_1 _ _ l0_2 t137 t138 _ (csb HR0_1 HB) HC0_1.1 (csb HR0_2 HB) HC0_2.1 A2.1) ?_; rintro e w5 ⟨rfl, hb⟩; refine ⟨_, rfl, ?_⟩; replace BK136 := bbh BK136 hb; replace HB := bst hb; (try clear hb)))
 go_ret2
 exact ⟨per, pbg⟩

end Go.Proofs.Ytnoebjmhimehcaa.P
