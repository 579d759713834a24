-- LAID BY OUR PROGRAM OVER THE PRINT (xprint.py): Lean checks it.
import Derived.Test.YtboonibkibhmhaaPx0
import Derived.Test.YtboonibkibhmhaaPx5
import Derived.Test.YtboonibkibhmhaaPx6
import Derived.BigRegion
import Derived.Laws.EntriesVeiled
import Derived.RegionTactic
namespace Go.Proofs.Ytboonibkibhmhaa.P
open Go.RowKit Go.Proofs.YtboonibkibhmhaaW.PrintWords Go.Proofs.YtboonibkibhmhaaW.PrintLast Go.Proofs.YtboonibkibhmhaaW.PrintMore
attribute [local go_sem] max2_int min2_int max_two min_two max_three min_three max_four min_four   -- for this text's walks alone
set_option linter.unusedVariables false
set_option linter.unusedSimpArgs false

/-! ### net_Check: function 13 -/
-- IMPORTS Derived.RegionTactic,Derived.BigRegion,Derived.Laws.EntriesVeiled
/-- The names so far, in a variable of the call's own; what else stood there stays. -/
structure NInv (w0 w : World) (Bn : Nat) (ns : List ByteArray) : Prop where
  t : ∃ v, w.heap[Bn]? = some (.cells #[v] 55 (0, 0)) ∧ Kd.R Kd.string 9 w w0.heap.size (fun _ => True) v ns
  B : Below w0.heap.size w0 w
  b : w0.heap.size ≤ Bn
def Others (w w1 : World) : Prop := w.heap.size ≤ w1.heap.size ∧ ∀ (a : Nat) (c : Array Value) (t : Nat), w.heap[a]? = some (.cells c t (0, 0)) → t ≠ 55 → t ≠ 9 → w1.heap[a]? = some (.cells c t (0, 0))
theorem Others.trans {a b c : World} (h : Others a b) (k : Others b c) : Others a c := ⟨Nat.le_trans h.1 k.1, fun x cs t h1 h2 h3 => k.2 x cs t (h.2 x cs t h1 h2 h3) h2 h3⟩
theorem Others.below {w w1 : World} (hb : Below w.heap.size w w1) : Others w w1 := ⟨hb.size, fun a c t h _ _ => blk_below h hb⟩
theorem NInv.below {w0 w w1 : World} {Bn : Nat} {ns : List ByteArray} (h : NInv w0 w Bn ns) (hb : Below w.heap.size w w1) : NInv w0 w1 Bn ns := by
  obtain ⟨⟨v, h1, h2⟩, B, b⟩ := h
  exact ⟨⟨v, blk_below h1 hb, Kd.R_below h2 hb⟩, B.trans (hb.mono B.size), b⟩
theorem NInv.push {w0 w w1 : World} {Bn : Nat} {ns ns' : List ByteArray} (h : NInv w0 w Bn ns) {v v1 : Value} (hT : Kd.R Kd.string 9 w w0.heap.size (fun _ => True) v ns)
    (h1 : Kd.R Kd.string 9 w1 w0.heap.size (fun _ => True) v1 ns') (hb : Below w0.heap.size w0 w1) (hg : w.grownBy w1 v.ownBlock) : NInv w0 (w1.setCell ⟨Bn, 0, none⟩ v1) Bn ns' ∧ Others w (w1.setCell ⟨Bn, 0, none⟩ v1) ∧ w1.cell? ⟨Bn, 0, none⟩ ≠ none ∧ w1.frozen? ⟨Bn, 0, none⟩ = false := by
  obtain ⟨⟨vt, h3, h4⟩, B, b⟩ := h
  have e3 := grown_blk h3 (Kd.R_typed hT) (by decide) hg
  refine ⟨⟨⟨v1, one_setCell e3, Kd.R_set h1 e3 (by decide) _ _⟩, below_set hb b, b⟩, ⟨by simpa using hg.size, fun a c t ha t1 t2 => ?_⟩, by rw [cell_of_one e3]; simp, free_of_one e3⟩
  have ea := grown_blk ha (Kd.R_typed hT) t2 hg
  exact blk_over ea (blk_apart ea e3 t1) _
/-- One more name: an error, or the names with it. -/
def addM (ns : List ByteArray) (s : ByteArray) : Option (Int × List ByteArray) :=
  if nameB s = true then (if (ns.any fun o => o.toList == s.toList) = true then some (6, ns) else (if ns.length < 1000000 then some (0, ns ++ [s]) else none)) else some (5, ns)
theorem any_step (ns : List ByteArray) (s : ByteArray) (i : Nat) (hi : i < ns.length) : ((ns.drop i).any fun o => o.toList == s.toList) = (((rdOf ByteArray.empty ns (i : Int)).toList == s.toList) || ((ns.drop (i + 1)).any fun o => o.toList == s.toList)) := by
  rw [List.drop_eq_getElem_cons hi, List.any_cons]
  unfold rdOf
  rw [Int.toNat_natCast, List.getD_eq_getElem?_getD, List.getElem?_eq_getElem hi]
  rfl

set_option maxHeartbeats 1000000 in
set_option maxRecDepth 100000 in
theorem add_calls (w0 w : World) (Bn : Nat) (ns : List ByteArray) (s : ByteArray) (p : Int × List ByteArray) (h : NInv w0 w Bn ns) (hp : addM ns s = some p) :
    Calls Try.prog 48 #[.string s, .pointer (some ⟨Bn, 0, none⟩)] w fun e w' => e = .returned (.int .i64 p.1) ∧ NInv w0 w' Bn p.2 ∧ Others w w' := by
  have HV := Aside0.mk h
  clear h
  unfold addM at hp
  by_cases c1 : nameB s = true
  case neg =>
    rw [if_neg c1] at hp
    cases hp
    have HN := Aside0.mk (show net_Name.f s = some false by unfold net_Name.f; rw [Bool.not_eq_true] at c1; rw [c1])
    clear c1
    go_enter Try.func48, Try.ntmps48
    go_wp2_with (first | (go_at_call 41; refine (net_Name.calls _ _ _ HN.out).mono ?_; rintro e w' ⟨rfl, hb⟩; have HB := Aside0.mk hb; clear hb))
    go_ret
    exact ⟨rfl, HV.out.below HB.out, Others.below HB.out⟩
  rw [if_pos c1] at hp
  have HN := Aside0.mk (show net_Name.f s = some true by unfold net_Name.f; rw [c1])
  have HP := Aside0.mk hp
  clear c1 hp
  go_enter Try.func48, Try.ntmps48
  go_wp2_with (first | (go_at_call 41; refine (net_Name.calls _ _ _ HN.out).mono ?_; rintro e w1 ⟨rfl, hb⟩; have HV1 := Aside0.mk (HV.out.below hb); have HO1 := Aside0.mk (Others.below hb); obtain ⟨vt, ht1, ht2⟩ := HV1.out.t; obtain ⟨At, ct, rfl⟩ := Kd.R_slice ht2; have ct1 := cell_of_one ht1; have HC := Aside0.mk ht1; have HT := Aside0.mk ht2; clear hb ht1 ht2))
  clear HV
  have HD := Aside0.mk (show (ns.any fun o => o.toList == s.toList) = ((ns.drop 0).any fun o => o.toList == s.toList) by rw [List.drop_zero])
  go_loopg [11] ns.length (fun kq v11 w' => ∃ i : Nat, v11 = .int .i64 i ∧ Aside0 (kq = ns.length - i) ∧ Aside0 (i ≤ ns.length) ∧ Aside0 ((ns.any fun o => o.toList == s.toList) = ((ns.drop i).any fun o => o.toList == s.toList)) ∧ Aside0 (w'.heap[Bn]? = some (.cells #[.slice At ns.length ct] 55 (0, 0))) ∧ Aside0 (Kd.R Kd.string 9 w' w0.heap.size (fun _ => True) (.slice At ns.length ct) ns) ∧ Aside0 (NInv w0 w' Bn ns) ∧ Aside0 (Others w w'))
  case atStart => exact ⟨0, rfl, ⟨rfl⟩, ⟨Nat.zero_le _⟩, HD, HC, HT, HV1, HO1⟩
  case round =>
    clear HD HC HT HV1 HO1 ct1
    obtain ⟨i, rfl, HK, HI, HD, HC, HT, HV1, HO1⟩ := hrel
    by_cases d1 : i < ns.length
    · have d1b : decide ((i : Int) < (ns.length : Int)) = true := decide_eq_true (by omega)
      have d1c : decide (i < ns.length) = true := decide_eq_true d1
      obtain ⟨gt, gc, eg, _, _, _⟩ := Kd.R_form HT.out (by omega)
      injection eg with eg _ eg2
      subst eg eg2
      obtain ⟨y1, y2⟩ := Kd.R_celln ByteArray.empty HT.out (i : Int) (by omega) (by omega)
      have HS := Aside0.mk (any_step ns s i d1)
      have D1 := Aside0.mk d1
      rw [Int.toNat_natCast] at y1 y2
      have HM := Aside0.mk (Kd.R_reads' HT.out).2.2.2.1
      cases d2 : ((rdOf ByteArray.empty ns (i : Int)).toList == s.toList) with
      | true =>
        have HP2 := Aside0.mk (show p = (6, ns) by
          have hp := HP.out
          rw [HD.out, HS.out, d2] at hp
          simpa using hp.symm)
        clear HP
        go_wp2
        go_ret
        have e_ := HP2.out
        subst e_
        exact ⟨rfl, HV1.out, HO1.out⟩
      | false =>
        go_wp2
        go_roundg (ns.length - (i + 1))
        case measure => have := HK.out; have := D1.out; omega
        case rel => exact ⟨i + 1, by congr 1; have := HM.out; have := D1.out; (first | omega | (unfold wrap64; omega) | (show wrap64 _ = _; unfold wrap64; omega)), ⟨rfl⟩, ⟨D1.out⟩, ⟨by rw [HD.out, HS.out, d2, Bool.false_or]⟩, HC, HT, HV1, HO1⟩
    · have d1b : decide ((i : Int) < (ns.length : Int)) = false := decide_eq_false (by omega)
      have d1c : decide (i < ns.length) = false := decide_eq_false d1
      have hp := HP.out
      have hd : (ns.any fun o => o.toList == s.toList) = false := by rw [HD.out, List.drop_eq_nil_of_le (by omega)]; rfl
      rw [hd, if_neg Bool.false_ne_true] at hp
      by_cases d3 : ns.length < 1000000
      case neg => rw [if_neg d3] at hp; cases hp
      rw [if_pos d3] at hp
      have HP2 := Aside0.mk (Option.some.inj hp).symm
      have D3 := Aside0.mk d3
      have cb := cell_of_one HC.out
      clear hp hd HP d3
      go_wp2_with (first
        | ((with_reducible refine gate_builtin (b := .append) (xs := #[.tmp 19, .tmp 21]) rfl ?_); at_builtin; refine Kd.R_append Kd.string (w0 := w0) w0.heap.size rfl (.tmp 19) (.tmp 21) 55 9 (.string ⟨#[]⟩) 16 rfl Try.underlying55 info9 rfl (by decide) (by omega) (.slice At ns.length ct) ns s [.string s] (fun _ => True) (fun _ => False) rfl rfl ?aP (fun _ hk => hk.elim) ?aF ?aO ?aB ?aS ?aL ?_; (case aP => exact rfl); (case aF => exact (fun _ _ => trivial)); (case aO => exact HT.out); (case aB => exact HV1.out.B); (case aS => exact HV1.out.B.size); (case aL => have := D3.out; omega); intro v2 w2 ho hb hg hat; obtain ⟨A2, k2, rfl⟩ := Kd.R_slice ho; have HX := Aside0.mk (NInv.push HV1.out HT.out ho hb hg); obtain ⟨c2, hc2⟩ := Option.ne_none_iff_exists'.mp HX.out.2.2.1; have hf2 := HX.out.2.2.2; clear ho hb hg hat))
      go_ret
      have e_ := HP2.out
      subst e_
      have x_ := HX.out
      rw [List.length_append] at x_
      exact ⟨rfl, x_.1, HO1.out.trans x_.2.1⟩

def net_Check.l1 : Nat → List S50 → List S53 → List ByteArray → Int → Option (Int × Int)
  | 0, _, _, _, _ => none
  | k + 1, l1, l2, ns, i => if i < (l2.length : Int) then (if 0 ≤ i then ((addM ns (rd_T53 l2 i).f0).bind fun p => if p.1 = 0 then ((net_checkTrans.f k (rd_T53 l2 i).f0 (rd_T53 l2 i).f1 (rd_T53 l2 i).f2 (rd_T53 l2 i).f3 (rd_T53 l2 i).f4 (l1.length : Int)).bind fun e => if e = 0 then net_Check.l1 k l1 l2 p.2 (wrap64 (i + 1)) else some (e, wrap64 ((l1.length : Int) + i))) else some (p.1, wrap64 ((l1.length : Int) + i))) else none) else some (0, 0)
def net_Check.l0 : Nat → List S50 → List S53 → List ByteArray → Int → Option (Int × Int)
  | 0, _, _, _, _ => none
  | k + 1, l1, l2, ns, i => if i < (l1.length : Int) then (if 0 ≤ i then ((addM ns (rd_T50 l1 i).f0).bind fun p => if p.1 = 0 then ((net_checkPlace.f (rd_T50 l1 i).f0 (rd_T50 l1 i).f1 (rd_T50 l1 i).f2).bind fun e => if e = 0 then net_Check.l0 k l1 l2 p.2 (wrap64 (i + 1)) else some (e, i)) else some (p.1, i)) else none) else net_Check.l1 k l1 l2 ns 0
def net_Check.f (k : Nat) (a0_0 : ByteArray) (l0_1 : List (S50)) (l0_2 : List (S53)) : Option (Int × Int) := if nameB a0_0 = true then (if (l0_1.length : Int) < 1 ∨ (24 : Int) < (l0_1.length : Int) ∨ (24 : Int) < (l0_2.length : Int) then some (2, 0) else net_Check.l0 k l0_1 l0_2 [] 0) else some (5, 0)
theorem net_Check.mono_l : ∀ k, (∀ y0 y1 y2 y3, LeO (net_Check.l0 k y0 y1 y2 y3) (net_Check.l0 (k + 1) y0 y1 y2 y3)) ∧ (∀ y0 y1 y2 y3, LeO (net_Check.l1 k y0 y1 y2 y3) (net_Check.l1 (k + 1) y0 y1 y2 y3))
  | 0 => ⟨fun _ _ _ _ r h => by simp [net_Check.l0] at h, fun _ _ _ _ r h => by simp [net_Check.l1] at h⟩
  | k + 1 => by
    obtain ⟨ih0, ih1⟩ := net_Check.mono_l k
    refine ⟨?_, ?_⟩
    · intro y0 y1 y2 y3
      unfold net_Check.l0
      repeat' first | exact ih0 _ _ _ _ | exact ih1 _ _ _ _ | exact LeO.refl _ | exact LeO.none _ | refine LeO.ite ?_ ?_ | refine LeO.bind (LeO.refl _) (fun _ => ?_)
    · intro y0 y1 y2 y3
      unfold net_Check.l1
      repeat' first | exact ih1 _ _ _ _ | exact net_checkTrans.mono _ _ _ _ _ _ _ | exact LeO.refl _ | exact LeO.none _ | refine LeO.ite ?_ ?_ | refine LeO.bind (LeO.refl _) (fun _ => ?_) | refine LeO.bind (net_checkTrans.mono _ _ _ _ _ _ _) (fun _ => ?_)
theorem net_Check.mono : ∀ a0 a1 a2 k, LeO (net_Check.f k a0 a1 a2) (net_Check.f (k + 1) a0 a1 a2) := by
  intro a0 a1 a2 k
  unfold net_Check.f
  exact LeO.ite (LeO.ite (LeO.refl _) ((net_Check.mono_l k).1 _ _ _ _)) (LeO.refl _)
/-- What stands while a net is checked: the net, the result, the names. -/
structure KInv (w0 w : World) (Bx Br Bn : Nat) (net : Array Value) (ns : List ByteArray) : Prop where
  nv : NInv w0 w Bn ns
  bx : w.heap[Bx]? = some (.cells net 25 (0, 0))
  br : w.heap[Br]? = some (.cells #[.int .i64 0, .int .i64 0] 31 (0, 0))
  rb : w0.heap.size ≤ Br
theorem KInv.move {w0 w w1 : World} {Bx Br Bn : Nat} {net : Array Value} {ns ns' : List ByteArray} (h : KInv w0 w Bx Br Bn net ns) (hn : NInv w0 w1 Bn ns') (o : Others w w1) : KInv w0 w1 Bx Br Bn net ns' := ⟨hn, o.2 _ _ _ h.bx (by decide) (by decide), o.2 _ _ _ h.br (by decide) (by decide), h.rb⟩
theorem KInv.below {w0 w w1 : World} {Bx Br Bn : Nat} {net : Array Value} {ns : List ByteArray} (h : KInv w0 w Bx Br Bn net ns) (hb : Below w.heap.size w w1) : KInv w0 w1 Bx Br Bn net ns := h.move (h.nv.below hb) (Others.below hb)
theorem heapArc : Kd.Heap k64 := Kd.heap_iso _ (Kd.heap_pair (Kd.heap_int _) (Kd.heap_int _))
/-- The result is written. -/
theorem res_put {W : World} {Br : Nat} {x y a b : Int} (h : W.heap[Br]? = some (.cells #[.int .i64 x, .int .i64 y] 31 (0, 0))) : ((W.setCell ⟨Br, 0, none⟩ (.int .i64 a)).setCell ⟨Br, 1, none⟩ (.int .i64 b)).heap[Br]? = some (.cells #[.int .i64 a, .int .i64 b] 31 (0, 0)) :=
  blk_put (cs := #[.int .i64 a, .int .i64 y]) (blk_put (cs := #[.int .i64 x, .int .i64 y]) h 0 _ rfl) 1 _ rfl
theorem res_facts {W : World} {Br : Nat} (h : W.heap[Br]? = some (.cells #[.int .i64 0, .int .i64 0] 31 (0, 0))) : W.cell? ⟨Br, 0, none⟩ = some (.int .i64 0) ∧ W.cell? ⟨Br, 1, none⟩ = some (.int .i64 0) ∧ W.frozen? ⟨Br, 0, none⟩ = false ∧ W.frozen? ⟨Br, 1, none⟩ = false := ⟨(blk_cell h 0).trans rfl, (blk_cell h 1).trans rfl, blk_frozen h 0, blk_frozen h 1⟩
theorem net_facts {W : World} {B : Nat} {x y z : Value} (h : W.heap[B]? = some (.cells #[x, y, z] 25 (0, 0))) : W.cell? ⟨B, 0, none⟩ = some x ∧ W.cell? ⟨B, 1, none⟩ = some y ∧ W.cell? ⟨B, 2, none⟩ = some z := ⟨(blk_cell h 0).trans rfl, (blk_cell h 1).trans rfl, (blk_cell h 2).trans rfl⟩
theorem place_facts {W : World} {B : Nat} {x y z : Value} (h : W.heap[B]? = some (.cells #[x, y, z] 50 (0, 0))) : W.cell? ⟨B, 0, none⟩ = some x ∧ W.cell? ⟨B, 1, none⟩ = some y ∧ W.cell? ⟨B, 2, none⟩ = some z := ⟨(blk_cell h 0).trans rfl, (blk_cell h 1).trans rfl, (blk_cell h 2).trans rfl⟩
theorem trans_facts {W : World} {B : Nat} {x y z u v : Value} (h : W.heap[B]? = some (.cells #[x, y, z, u, v] 53 (0, 0))) : W.cell? ⟨B, 0, none⟩ = some x ∧ W.cell? ⟨B, 1, none⟩ = some y ∧ W.cell? ⟨B, 2, none⟩ = some z ∧ W.cell? ⟨B, 3, none⟩ = some u ∧ W.cell? ⟨B, 4, none⟩ = some v := ⟨(blk_cell h 0).trans rfl, (blk_cell h 1).trans rfl, (blk_cell h 2).trans rfl, (blk_cell h 3).trans rfl, (blk_cell h 4).trans rfl⟩

set_option maxHeartbeats 4000000 in
set_option maxRecDepth 100000 in
theorem net_Check.calls (k : Nat) (a0_0 : ByteArray) (A0_1 : Option Addr) (c0_1 : Nat) (l0_1 : List (S50)) (A0_2 : Option Addr) (c0_2 : Nat) (l0_2 : List (S53)) (r1 : Int) (r2 : Int) (w : World) (hr0_1 : Kd.C k50 w A0_1 l0_1.length l0_1) (hc0_1 : l0_1.length ≤ c0_1) (hr0_2 : Kd.C k53 w A0_2 l0_2.length l0_2) (hc0_2 : l0_2.length ≤ c0_2) (h : net_Check.f k a0_0 l0_1 l0_2 = some (r1, r2)) :
    Calls Try.prog 13 #[.agg #[.string a0_0, .slice A0_1 l0_1.length c0_1, .slice A0_2 l0_2.length c0_2]] w fun e w' => e = .returned (.agg #[.int .i64 r1, .int .i64 r2]) ∧ Below w.heap.size w w' := by
  have hu1 := Try.underlying25
  have hu2 := Try.underlying31
  have hu3 := Try.underlying50
  have hu4 := Try.underlying53
  have HR1 := Aside0.mk hr0_1
  have HC1 := Aside0.mk hc0_1
  have HR2 := Aside0.mk hr0_2
  have HC2 := Aside0.mk hc0_2
  clear hr0_1 hc0_1 hr0_2 hc0_2
  have W1 : (w.alloc (.cells #[.string a0_0, .slice A0_1 l0_1.length c0_1, .slice A0_2 l0_2.length c0_2] 25)).heap[w.heap.size]? = some (.cells #[.string a0_0, .slice A0_1 l0_1.length c0_1, .slice A0_2 l0_2.length c0_2] 25 (0, 0)) := alloc_new _ _
  have hs1 : (w.alloc (.cells #[.string a0_0, .slice A0_1 l0_1.length c0_1, .slice A0_2 l0_2.length c0_2] 25)).heap.size = w.heap.size + 1 := by simp
  obtain ⟨w2, hw2⟩ : ∃ w2 : World, w2 = (w.alloc (.cells #[.string a0_0, .slice A0_1 l0_1.length c0_1, .slice A0_2 l0_2.length c0_2] 25)).alloc (.cells #[.int .i64 0, .int .i64 0] 31) := ⟨_, rfl⟩
  have BX2 := Aside0.mk (show w2.heap[w.heap.size]? = some (.cells #[.string a0_0, .slice A0_1 l0_1.length c0_1, .slice A0_2 l0_2.length c0_2] 25 (0, 0)) by rw [hw2]; exact blk_below W1 (below_alloc (Below.refl _ _) _))
  have BR2 := Aside0.mk (show w2.heap[w.heap.size + 1]? = some (.cells #[.int .i64 0, .int .i64 0] 31 (0, 0)) by rw [hw2, ← hs1]; exact alloc_new _ _)
  have BB2 := Aside0.mk (show Below w.heap.size w w2 by rw [hw2]; exact below_alloc (below_alloc (Below.refl _ _) _) _)
  obtain ⟨cx0, cx1, cx2⟩ := net_facts BX2.out
  obtain ⟨cr0, cr1, fr0, fr1⟩ := res_facts BR2.out
  rw [hw2] at cx0 cx1 cx2 cr0 cr1 fr0 fr1
  have HW2 := Aside0.mk hw2
  clear W1 hs1 hw2
  unfold net_Check.f at h
  by_cases n1 : nameB a0_0 = true
  case neg =>
    rw [if_neg n1] at h
    simp only [Option.some.injEq, Prod.mk.injEq] at h
    obtain ⟨rfl, rfl⟩ := h
    have HN := Aside0.mk (show net_Name.f a0_0 = some false by unfold net_Name.f; rw [Bool.not_eq_true] at n1; rw [n1])
    clear n1
    go_enter Try.func13, Try.ntmps13
    go_wp2_with (first | (go_at_call 41; refine (net_Name.calls _ _ _ HN.out).mono ?_; rintro e w3 ⟨rfl, hb⟩; rw [← HW2.out] at hb; have BX3 := Aside0.mk (blk_below BX2.out hb); have BR3 := Aside0.mk (blk_below BR2.out hb); have BB3 := Aside0.mk (BB2.out.trans (hb.mono BB2.out.size)); obtain ⟨dx0, dx1, dx2⟩ := net_facts BX3.out; obtain ⟨dr0, dr1, er0, er1⟩ := res_facts BR3.out; clear hb))
    refine bodyPost_ret (results_cell_row rfl _ _ (w.heap.size + 1) 31 #[.int .i64 5, .int .i64 0] (0, 0) _ rfl (res_put BR3.out) Try.underlying31 rfl (by kernel_rfl)) rfl ?_
    exact ⟨rfl, below_set (below_set BB3.out (Nat.le_succ _)) (Nat.le_succ _)⟩
  rw [if_pos n1] at h
  have HN := Aside0.mk (show net_Name.f a0_0 = some true by unfold net_Name.f; rw [n1])
  clear n1
  by_cases z : (l0_1.length : Int) < 1 ∨ (24 : Int) < (l0_1.length : Int) ∨ (24 : Int) < (l0_2.length : Int)
  case pos =>
    rw [if_pos z] at h
    simp only [Option.some.injEq, Prod.mk.injEq] at h
    obtain ⟨rfl, rfl⟩ := h
    by_cases z1 : (l0_1.length : Int) < 1
    case pos =>
      have z1b : decide ((l0_1.length : Int) < 1) = true := decide_eq_true (by omega)
      have z1c : decide (l0_1.length < 1) = true := decide_eq_true (by omega)
      clear z
      go_enter Try.func13, Try.ntmps13
      go_wp2_with (first | (go_at_call 41; refine (net_Name.calls _ _ _ HN.out).mono ?_; rintro e w3 ⟨rfl, hb⟩; rw [← HW2.out] at hb; have BX3 := Aside0.mk (blk_below BX2.out hb); have BR3 := Aside0.mk (blk_below BR2.out hb); have BB3 := Aside0.mk (BB2.out.trans (hb.mono BB2.out.size)); obtain ⟨dx0, dx1, dx2⟩ := net_facts BX3.out; obtain ⟨dr0, dr1, er0, er1⟩ := res_facts BR3.out; clear hb))
      refine bodyPost_ret (results_cell_row rfl _ _ (w.heap.size + 1) 31 #[.int .i64 2, .int .i64 0] (0, 0) _ rfl (res_put BR3.out) Try.underlying31 rfl (by kernel_rfl)) rfl ?_
      exact ⟨rfl, below_set (below_set BB3.out (Nat.le_succ _)) (Nat.le_succ _)⟩
    have z1b : decide ((l0_1.length : Int) < 1) = false := decide_eq_false (by omega)
    have z1c : decide (l0_1.length < 1) = false := decide_eq_false (by omega)
    by_cases z2 : 24 < (l0_1.length : Int)
    case pos =>
      have z2b : decide (24 < (l0_1.length : Int)) = true := decide_eq_true (by omega)
      have z2c : decide (24 < l0_1.length) = true := decide_eq_true (by omega)
      clear z
      go_enter Try.func13, Try.ntmps13
      go_wp2_with (first | (go_at_call 41; refine (net_Name.calls _ _ _ HN.out).mono ?_; rintro e w3 ⟨rfl, hb⟩; rw [← HW2.out] at hb; have BX3 := Aside0.mk (blk_below BX2.out hb); have BR3 := Aside0.mk (blk_below BR2.out hb); have BB3 := Aside0.mk (BB2.out.trans (hb.mono BB2.out.size)); obtain ⟨dx0, dx1, dx2⟩ := net_facts BX3.out; obtain ⟨dr0, dr1, er0, er1⟩ := res_facts BR3.out; clear hb))
      refine bodyPost_ret (results_cell_row rfl _ _ (w.heap.size + 1) 31 #[.int .i64 2, .int .i64 0] (0, 0) _ rfl (res_put BR3.out) Try.underlying31 rfl (by kernel_rfl)) rfl ?_
      exact ⟨rfl, below_set (below_set BB3.out (Nat.le_succ _)) (Nat.le_succ _)⟩
    have z2b : decide (24 < (l0_1.length : Int)) = false := decide_eq_false (by omega)
    have z2c : decide (24 < l0_1.length) = false := decide_eq_false (by omega)
    have z3 : 24 < (l0_2.length : Int) := (z.resolve_left z1).resolve_left z2
    have z3b : decide (24 < (l0_2.length : Int)) = true := decide_eq_true (by omega)
    have z3c : decide (24 < l0_2.length) = true := decide_eq_true (by omega)
    clear z
    go_enter Try.func13, Try.ntmps13
    go_wp2_with (first | (go_at_call 41; refine (net_Name.calls _ _ _ HN.out).mono ?_; rintro e w3 ⟨rfl, hb⟩; rw [← HW2.out] at hb; have BX3 := Aside0.mk (blk_below BX2.out hb); have BR3 := Aside0.mk (blk_below BR2.out hb); have BB3 := Aside0.mk (BB2.out.trans (hb.mono BB2.out.size)); obtain ⟨dx0, dx1, dx2⟩ := net_facts BX3.out; obtain ⟨dr0, dr1, er0, er1⟩ := res_facts BR3.out; clear hb))
    refine bodyPost_ret (results_cell_row rfl _ _ (w.heap.size + 1) 31 #[.int .i64 2, .int .i64 0] (0, 0) _ rfl (res_put BR3.out) Try.underlying31 rfl (by kernel_rfl)) rfl ?_
    exact ⟨rfl, below_set (below_set BB3.out (Nat.le_succ _)) (Nat.le_succ _)⟩
  rw [if_neg z] at h
  have z1b : decide ((l0_1.length : Int) < 1) = false := decide_eq_false (by omega)
  have z1c : decide (l0_1.length < 1) = false := decide_eq_false (by omega)
  have z2b : decide (24 < (l0_1.length : Int)) = false := decide_eq_false (by omega)
  have z2c : decide (24 < l0_1.length) = false := decide_eq_false (by omega)
  have z3b : decide (24 < (l0_2.length : Int)) = false := decide_eq_false (by omega)
  have z3c : decide (24 < l0_2.length) = false := decide_eq_false (by omega)
  have hmf : ∀ (fn : Fn) (first cap : Array Value) (w : World), (Instr.makeFunc fn first cap).run Try.prog w = .ok (.func fn first cap) w := fun _ _ _ _ => rfl
  have H := Aside0.mk h
  clear h
  go_enter Try.func13, Try.ntmps13
  go_wp2_with (first | (go_at_call 41; refine (net_Name.calls _ _ _ HN.out).mono ?_; rintro e w3 ⟨rfl, hb⟩; rw [← HW2.out] at hb; have BX3 := Aside0.mk (blk_below BX2.out hb); have BR3 := Aside0.mk (blk_below BR2.out hb); have BB3 := Aside0.mk (BB2.out.trans (hb.mono BB2.out.size)); obtain ⟨dx0, dx1, dx2⟩ := net_facts BX3.out; obtain ⟨dr0, dr1, er0, er1⟩ := res_facts BR3.out; clear hb; obtain ⟨ex0, ex1, ex2⟩ := net_facts (blk_below BX3.out (below_alloc (Below.refl _ _) (.cells #[.slice none 0 0] 55)))))
  have HK := Aside0.mk (show KInv w (w3.alloc (.cells #[.slice none 0 0] 55)) w.heap.size (w.heap.size + 1) w3.heap.size #[.string a0_0, .slice A0_1 l0_1.length c0_1, .slice A0_2 l0_2.length c0_2] [] from ⟨⟨⟨.slice none 0 0, alloc_new _ _, Kd.R_nil _ _ _ _ _⟩, below_alloc BB3.out _, BB3.out.size⟩, blk_below BX3.out (below_alloc (Below.refl _ _) _), blk_below BR3.out (below_alloc (Below.refl _ _) _), Nat.le_succ _⟩)
  obtain ⟨Bn, hBn⟩ : ∃ Bn, Bn = w3.heap.size := ⟨_, rfl⟩
  rw [← hBn] at HK ⊢
  clear ex0 ex1 ex2 dx0 dx1 dx2 dr0 dr1 er0 er1 BX3 BR3 BB3 hBn cx0 cx1 cx2 cr0 cr1 fr0 fr1 BX2 BR2 BB2 HW2 z1b z1c z2b z2c z3b z3c z HN
  go_loopg [37] k (fun kq v37 w' => ∃ (i : Int) (ns : List ByteArray), v37 = .int .i64 i ∧ Aside0 (net_Check.l0 kq l0_1 l0_2 ns i = some (r1, r2)) ∧ Aside0 (kq ≤ k) ∧ Aside0 (KInv w w' w.heap.size (w.heap.size + 1) Bn #[.string a0_0, .slice A0_1 l0_1.length c0_1, .slice A0_2 l0_2.length c0_2] ns))
  case atStart => exact ⟨0, [], rfl, H, ⟨Nat.le_refl _⟩, HK⟩
  case round =>
    clear H HK
    obtain ⟨i, ns, rfl, HA, HJ, HK⟩ := hrel
    cases gk with
    | zero => exact absurd HA.out (by simp [net_Check.l0])
    | succ k1 =>
    have H := HA.out
    clear HA
    simp only [net_Check.l0] at H
    by_cases d1 : i < (l0_1.length : Int)
    case neg =>
      rw [if_neg d1] at H
      have d1b : decide (i < (l0_1.length : Int)) = false := decide_eq_false d1
      have H' := Aside0.mk H
      clear H d1
      obtain ⟨dx0, dx1, dx2⟩ := net_facts HK.out.bx
      go_wp2
      clear dx0 dx1 dx2 d1b
      go_loopg [59] k1 (fun kq v59 w' => ∃ (i : Int) (ns : List ByteArray), v59 = .int .i64 i ∧ Aside0 (net_Check.l1 kq l0_1 l0_2 ns i = some (r1, r2)) ∧ Aside0 (kq ≤ k1) ∧ Aside0 (KInv w w' w.heap.size (w.heap.size + 1) Bn #[.string a0_0, .slice A0_1 l0_1.length c0_1, .slice A0_2 l0_2.length c0_2] ns))
      case atStart => exact ⟨0, ns, rfl, H', ⟨Nat.le_refl _⟩, HK⟩
      case round =>
        clear H' HK
        obtain ⟨i, ns, rfl, HA, HJ2, HK⟩ := hrel
        cases gk with
        | zero => exact absurd HA.out (by simp [net_Check.l1])
        | succ k3 =>
        have H := HA.out
        clear HA
        simp only [net_Check.l1] at H
        by_cases d1 : i < (l0_2.length : Int)
        case neg =>
          rw [if_neg d1] at H
          have d1b : decide (i < (l0_2.length : Int)) = false := decide_eq_false d1
          simp only [Option.some.injEq, Prod.mk.injEq] at H
          obtain ⟨rfl, rfl⟩ := H
          obtain ⟨dr0, dr1, er0, er1⟩ := res_facts HK.out.br
          clear d1
          go_wp2
          refine bodyPost_ret (results_cell_row rfl _ _ (w.heap.size + 1) 31 #[.int .i64 0, .int .i64 0] (0, 0) _ rfl (res_put HK.out.br) Try.underlying31 rfl (by kernel_rfl)) rfl ?_
          exact ⟨rfl, below_set (below_set HK.out.nv.B (Nat.le_succ _)) (Nat.le_succ _)⟩
        rw [if_pos d1] at H
        have d1b : decide (i < (l0_2.length : Int)) = true := decide_eq_true d1
        by_cases d2 : 0 ≤ i
        case neg => rw [if_neg d2] at H; cases H
        rw [if_pos d2] at H
        obtain ⟨⟨p1, ns1⟩, hp, H⟩ := Option.bind_eq_some_iff.mp H
        have HP := Aside0.mk hp
        clear hp
        obtain ⟨ad, A1, c1, A2, c2, A3, c3, eA, y0, y1, y2, y3, y4, m1, g1, m2, g2, m3, g3⟩ := at_T53 HR2.out i d2 d1
        subst eA
        have u0 := pw_cell_below HK.out.nv.B y0
        have u1 := pw_cell_below HK.out.nv.B y1
        have u2 := pw_cell_below HK.out.nv.B y2
        have u3 := pw_cell_below HK.out.nv.B y3
        have u4 := pw_cell_below HK.out.nv.B y4
        clear y0 y1 y2 y3 y4
        have M1 := Aside0.mk m1
        have M2 := Aside0.mk m2
        have M3 := Aside0.mk m3
        have G1 := Aside0.mk g1
        have G2 := Aside0.mk g2
        have G3 := Aside0.mk g3
        clear m1 m2 m3 g1 g2 g3
        have q1 : (0 ≤ i) = True := eq_true d2
        have q2 : (i < (l0_2.length : Int)) = True := eq_true d1
        have HK1 := Aside0.mk (HK.out.below (below_alloc (Below.refl _ _) (.cells #[.string (rd_T53 l0_2 i).f0, .slice A1 (rd_T53 l0_2 i).f1.length c1, .slice A2 (rd_T53 l0_2 i).f2.length c2, .slice A3 (rd_T53 l0_2 i).f3.length c3, .int .i64 (rd_T53 l0_2 i).f4] 53)))
        have HPl := Aside0.mk (alloc_new wr (.cells #[.string (rd_T53 l0_2 i).f0, .slice A1 (rd_T53 l0_2 i).f1.length c1, .slice A2 (rd_T53 l0_2 i).f2.length c2, .slice A3 (rd_T53 l0_2 i).f3.length c3, .int .i64 (rd_T53 l0_2 i).f4] 53))
        obtain ⟨v0, v1, v2, v3, v4⟩ := trans_facts HPl.out
        by_cases d3 : p1 = 0
        case neg =>
          have d3b : (p1 == 0) = false := beq_eq_false_iff_ne.mpr d3
          have d3c : (p1 != 0) = true := bne_iff_ne.mpr d3
          rw [if_neg d3] at H
          simp only [Option.some.injEq, Prod.mk.injEq] at H
          obtain ⟨rfl, rfl⟩ := H
          clear d3
          go_wp2_with (first | (go_at_call 48; refine (add_calls w _ Bn ns _ _ HK1.out.nv HP.out).mono ?_; rintro e w4 ⟨rfl, hn, ho⟩; have HK2 := Aside0.mk (HK1.out.move hn ho); have HPm := Aside0.mk (ho.2 _ _ _ HPl.out (by decide) (by decide)); obtain ⟨t0, t1, t2, t3, t4⟩ := trans_facts HPm.out; obtain ⟨dr0, dr1, er0, er1⟩ := res_facts HK2.out.br; obtain ⟨dx0, dx1, dx2⟩ := net_facts HK2.out.bx; clear hn ho))
          refine bodyPost_ret (results_cell_row rfl _ _ (w.heap.size + 1) 31 #[.int .i64 p1, .int .i64 (wrap64 ((l0_1.length : Int) + i))] (0, 0) _ rfl (res_put HK2.out.br) Try.underlying31 rfl (by kernel_rfl)) rfl ?_
          exact ⟨rfl, below_set (below_set HK2.out.nv.B (Nat.le_succ _)) (Nat.le_succ _)⟩
        have d3b : (p1 == 0) = true := beq_iff_eq.mpr d3
        rw [if_pos d3] at H
        obtain ⟨e1, he, H⟩ := Option.bind_eq_some_iff.mp H
        have HE := Aside0.mk he
        clear he
        by_cases d4 : e1 = 0
        case neg =>
          have d4b : (e1 == 0) = false := beq_eq_false_iff_ne.mpr d4
          have d4c : (e1 != 0) = true := bne_iff_ne.mpr d4
          rw [if_neg d4] at H
          simp only [Option.some.injEq, Prod.mk.injEq] at H
          obtain ⟨rfl, rfl⟩ := H
          clear d4 d3
          go_wp2_with (first | (go_at_call 48; refine (add_calls w _ Bn ns _ _ HK1.out.nv HP.out).mono ?_; rintro e w4 ⟨rfl, hn, ho⟩; have HK2 := Aside0.mk (HK1.out.move hn ho); have HPm := Aside0.mk (ho.2 _ _ _ HPl.out (by decide) (by decide)); obtain ⟨t0, t1, t2, t3, t4⟩ := trans_facts HPm.out; obtain ⟨dr0, dr1, er0, er1⟩ := res_facts HK2.out.br; obtain ⟨dx0, dx1, dx2⟩ := net_facts HK2.out.bx; clear hn ho) | (go_at_call 50; refine (net_checkTrans.calls k3 _ (fun k_ => k_ < w4.heap.size) A1 c1 _ (fun k_ => k_ < w4.heap.size) A2 c2 _ (fun k_ => k_ < w4.heap.size) A3 c3 _ _ _ _ _ (Kd.V_mk M1.out (Kd.C_F heapArc (Kd.C_below G1.out HK2.out.nv.B))) (Kd.V_mk M2.out (Kd.C_F heapArc (Kd.C_below G2.out HK2.out.nv.B))) (Kd.V_mk M3.out (Kd.C_F heapArc (Kd.C_below G3.out HK2.out.nv.B))) HE.out).mono ?_; rintro e w5 ⟨rfl, hb⟩; have HK3 := Aside0.mk (HK2.out.below hb); obtain ⟨dr0, dr1, er0, er1⟩ := res_facts HK3.out.br; obtain ⟨dx0, dx1, dx2⟩ := net_facts HK3.out.bx; clear hb))
          refine bodyPost_ret (results_cell_row rfl _ _ (w.heap.size + 1) 31 #[.int .i64 e1, .int .i64 (wrap64 ((l0_1.length : Int) + i))] (0, 0) _ rfl (res_put HK3.out.br) Try.underlying31 rfl (by kernel_rfl)) rfl ?_
          exact ⟨rfl, below_set (below_set HK3.out.nv.B (Nat.le_succ _)) (Nat.le_succ _)⟩
        have d4b : (e1 == 0) = true := beq_iff_eq.mpr d4
        have d4c : (e1 != 0) = false := by rw [bne, d4b]; rfl
        rw [if_pos d4] at H
        have HM := Aside0.mk (show (l0_2.length : Int) ≤ 9223372036854775807 by have := HR2.out.2.1; omega)
        rw [show wrap64 (i + 1) = i + 1 by have := HM.out; unfold wrap64; omega] at H
        have H' := Aside0.mk H
        clear H d4 d3
        go_wp2_with (first | (go_at_call 48; refine (add_calls w _ Bn ns _ _ HK1.out.nv HP.out).mono ?_; rintro e w4 ⟨rfl, hn, ho⟩; have HK2 := Aside0.mk (HK1.out.move hn ho); have HPm := Aside0.mk (ho.2 _ _ _ HPl.out (by decide) (by decide)); obtain ⟨t0, t1, t2, t3, t4⟩ := trans_facts HPm.out; obtain ⟨dr0, dr1, er0, er1⟩ := res_facts HK2.out.br; obtain ⟨dx0, dx1, dx2⟩ := net_facts HK2.out.bx; clear hn ho) | (go_at_call 50; refine (net_checkTrans.calls k3 _ (fun k_ => k_ < w4.heap.size) A1 c1 _ (fun k_ => k_ < w4.heap.size) A2 c2 _ (fun k_ => k_ < w4.heap.size) A3 c3 _ _ _ _ _ (Kd.V_mk M1.out (Kd.C_F heapArc (Kd.C_below G1.out HK2.out.nv.B))) (Kd.V_mk M2.out (Kd.C_F heapArc (Kd.C_below G2.out HK2.out.nv.B))) (Kd.V_mk M3.out (Kd.C_F heapArc (Kd.C_below G3.out HK2.out.nv.B))) HE.out).mono ?_; rintro e w5 ⟨rfl, hb⟩; have HK3 := Aside0.mk (HK2.out.below hb); obtain ⟨dr0, dr1, er0, er1⟩ := res_facts HK3.out.br; obtain ⟨dx0, dx1, dx2⟩ := net_facts HK3.out.bx; clear hb))
        go_roundg k3
        case measure => have := HJ2.out; omega
        case rel => exact ⟨_, _, (by congr 1; have := HM.out; (first | omega | (unfold wrap64; omega) | (show wrap64 _ = _; unfold wrap64; omega))), H', ⟨by have := HJ2.out; omega⟩, HK3⟩
    rw [if_pos d1] at H
    have d1b : decide (i < (l0_1.length : Int)) = true := decide_eq_true d1
    by_cases d2 : 0 ≤ i
    case neg => rw [if_neg d2] at H; cases H
    rw [if_pos d2] at H
    obtain ⟨⟨p1, ns1⟩, hp, H⟩ := Option.bind_eq_some_iff.mp H
    have HP := Aside0.mk hp
    clear hp
    obtain ⟨ad, eA, y0, y1, y2⟩ := at_T50 HR1.out i d2 d1
    subst eA
    have u0 := pw_cell_below HK.out.nv.B y0
    have u1 := pw_cell_below HK.out.nv.B y1
    have u2 := pw_cell_below HK.out.nv.B y2
    clear y0 y1 y2
    have q1 : (0 ≤ i) = True := eq_true d2
    have q2 : (i < (l0_1.length : Int)) = True := eq_true d1
    have HK1 := Aside0.mk (HK.out.below (below_alloc (Below.refl _ _) (.cells #[.string (rd_T50 l0_1 i).f0, .int .i64 (rd_T50 l0_1 i).f1, .int .i64 (rd_T50 l0_1 i).f2] 50)))
    have HPl := Aside0.mk (alloc_new wr (.cells #[.string (rd_T50 l0_1 i).f0, .int .i64 (rd_T50 l0_1 i).f1, .int .i64 (rd_T50 l0_1 i).f2] 50))
    obtain ⟨v0, v1, v2⟩ := place_facts HPl.out
    by_cases d3 : p1 = 0
    case neg =>
      have d3b : (p1 == 0) = false := beq_eq_false_iff_ne.mpr d3
      have d3c : (p1 != 0) = true := bne_iff_ne.mpr d3
      rw [if_neg d3] at H
      simp only [Option.some.injEq, Prod.mk.injEq] at H
      obtain ⟨rfl, rfl⟩ := H
      clear d3
      go_wp2_with (first | (go_at_call 48; refine (add_calls w _ Bn ns _ _ HK1.out.nv HP.out).mono ?_; rintro e w4 ⟨rfl, hn, ho⟩; have HK2 := Aside0.mk (HK1.out.move hn ho); have HPm := Aside0.mk (ho.2 _ _ _ HPl.out (by decide) (by decide)); obtain ⟨t0, t1, t2⟩ := place_facts HPm.out; obtain ⟨dr0, dr1, er0, er1⟩ := res_facts HK2.out.br; clear hn ho))
      refine bodyPost_ret (results_cell_row rfl _ _ (w.heap.size + 1) 31 #[.int .i64 p1, .int .i64 i] (0, 0) _ rfl (res_put HK2.out.br) Try.underlying31 rfl (by kernel_rfl)) rfl ?_
      exact ⟨rfl, below_set (below_set HK2.out.nv.B (Nat.le_succ _)) (Nat.le_succ _)⟩
    have d3b : (p1 == 0) = true := beq_iff_eq.mpr d3
    rw [if_pos d3] at H
    obtain ⟨e1, he, H⟩ := Option.bind_eq_some_iff.mp H
    have HE := Aside0.mk he
    clear he
    by_cases d4 : e1 = 0
    case neg =>
      have d4b : (e1 == 0) = false := beq_eq_false_iff_ne.mpr d4
      have d4c : (e1 != 0) = true := bne_iff_ne.mpr d4
      rw [if_neg d4] at H
      simp only [Option.some.injEq, Prod.mk.injEq] at H
      obtain ⟨rfl, rfl⟩ := H
      clear d4 d3
      go_wp2_with (first | (go_at_call 48; refine (add_calls w _ Bn ns _ _ HK1.out.nv HP.out).mono ?_; rintro e w4 ⟨rfl, hn, ho⟩; have HK2 := Aside0.mk (HK1.out.move hn ho); have HPm := Aside0.mk (ho.2 _ _ _ HPl.out (by decide) (by decide)); obtain ⟨t0, t1, t2⟩ := place_facts HPm.out; obtain ⟨dr0, dr1, er0, er1⟩ := res_facts HK2.out.br; clear hn ho) | (go_at_call 49; refine (net_checkPlace.calls _ _ _ _ _ HE.out).mono ?_; rintro e w5 ⟨rfl, hb⟩; have HK3 := Aside0.mk (HK2.out.below hb); obtain ⟨dr0, dr1, er0, er1⟩ := res_facts HK3.out.br; clear hb))
      refine bodyPost_ret (results_cell_row rfl _ _ (w.heap.size + 1) 31 #[.int .i64 e1, .int .i64 i] (0, 0) _ rfl (res_put HK3.out.br) Try.underlying31 rfl (by kernel_rfl)) rfl ?_
      exact ⟨rfl, below_set (below_set HK3.out.nv.B (Nat.le_succ _)) (Nat.le_succ _)⟩
    have d4b : (e1 == 0) = true := beq_iff_eq.mpr d4
    have d4c : (e1 != 0) = false := by rw [bne, d4b]; rfl
    rw [if_pos d4] at H
    have HM := Aside0.mk (show (l0_1.length : Int) ≤ 9223372036854775807 by have := HR1.out.2.1; omega)
    rw [show wrap64 (i + 1) = i + 1 by have := HM.out; unfold wrap64; omega] at H
    have H' := Aside0.mk H
    clear H d4 d3
    go_wp2_with (first | (go_at_call 48; refine (add_calls w _ Bn ns _ _ HK1.out.nv HP.out).mono ?_; rintro e w4 ⟨rfl, hn, ho⟩; have HK2 := Aside0.mk (HK1.out.move hn ho); have HPm := Aside0.mk (ho.2 _ _ _ HPl.out (by decide) (by decide)); obtain ⟨t0, t1, t2⟩ := place_facts HPm.out; obtain ⟨dr0, dr1, er0, er1⟩ := res_facts HK2.out.br; clear hn ho) | (go_at_call 49; refine (net_checkPlace.calls _ _ _ _ _ HE.out).mono ?_; rintro e w5 ⟨rfl, hb⟩; have HK3 := Aside0.mk (HK2.out.below hb); obtain ⟨dr0, dr1, er0, er1⟩ := res_facts HK3.out.br; clear hb))
    go_roundg k1
    case measure => have := HJ.out; omega
    case rel => exact ⟨_, _, (by congr 1; have := HM.out; (first | omega | (unfold wrap64; omega) | (show wrap64 _ = _; unfold wrap64; omega))), H', ⟨by have := HJ.out; omega⟩, HK3⟩

end Go.Proofs.Ytboonibkibhmhaa.P
