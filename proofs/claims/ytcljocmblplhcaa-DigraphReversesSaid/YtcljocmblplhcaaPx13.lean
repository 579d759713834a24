-- LAID BY OUR PROGRAM OVER THE PRINT (xprint.py): Lean checks it.
import Derived.Test.YtcljocmblplhcaaPx0
import Derived.Test.YtcljocmblplhcaaPx1
namespace Go.Proofs.Ytcljocmblplhcaa.P
open Go.RowKit Go.Proofs.YtcljocmblplhcaaW.PrintWords Go.Proofs.YtcljocmblplhcaaW.PrintLast Go.Proofs.YtcljocmblplhcaaW.PrintMore
attribute [local go_sem] max2_int min2_int max_two min_two max_three min_three max_four min_four   -- for this text's walks alone
set_option linter.unusedVariables false
set_option linter.unusedSimpArgs false

/-! ### digraph_Reach: function 24 -/
structure VInv (w0 w : World) (Bg Bo Bt : Nat) (A0 : Option Addr) (c0 : Nat) (g : List (List Int)) (out : List Bool) (todo : List Int) : Prop where
  hg : w.heap[Bg]? = some (.cells #[.slice A0 g.length c0] 22 (0, 0))
  o : ∃ vo, w.heap[Bo]? = some (.cells #[vo] 34 (0, 0)) ∧ Kd.R Kd.bool 4 w w0.heap.size (fun _ => True) vo out
  t : ∃ vt, w.heap[Bt]? = some (.cells #[vt] 26 (0, 0)) ∧ Kd.R (Kd.int .i64) 3 w w0.heap.size (fun _ => True) vt todo
  B : Below w0.heap.size w0 w
  bo : w0.heap.size ≤ Bo
  bt : w0.heap.size ≤ Bt
  len : out.length = g.length

theorem VInv.below {w0 w w1 : World} {Bg Bo Bt : Nat} {A0 : Option Addr} {c0 : Nat} {g : List (List Int)} {out : List Bool} {todo : List Int} (h : VInv w0 w Bg Bo Bt A0 c0 g out todo) (hb : Below w.heap.size w w1) : VInv w0 w1 Bg Bo Bt A0 c0 g out todo := by
  obtain ⟨hg, ⟨vo, h1, h2⟩, ⟨vt, h3, h4⟩, B, bo, bt, len⟩ := h
  exact ⟨blk_below hg hb, ⟨vo, blk_below h1 hb, Kd.R_below h2 hb⟩, ⟨vt, blk_below h3 hb, Kd.R_below h4 hb⟩, B.trans (hb.mono B.size), bo, bt, len⟩
theorem VInv.put {w0 w : World} {Bg Bo Bt : Nat} {A0 : Option Addr} {c0 : Nat} {g : List (List Int)} {out : List Bool} {todo : List Int} (h : VInv w0 w Bg Bo Bt A0 c0 g out todo) {go co : Nat} {cells : Array Value} (hO : Kd.R Kd.bool 4 w w0.heap.size (fun _ => True) (.slice (some ⟨go, 0, none⟩) out.length co) out)
    (ho : w.heap[Bo]? = some (.cells #[.slice (some ⟨go, 0, none⟩) out.length co] 34 (0, 0))) (hgo : w.heap[go]? = some (.cells cells 4 (0, 0))) (hb : w0.heap.size ≤ go) (v : Int) (x : Bool) : VInv w0 (w.setCell ⟨go, v.toNat, none⟩ (.bool x)) Bg Bo Bt A0 c0 g (out.set v.toNat x) todo := by
  obtain ⟨hg, _, ⟨vt, h3, h4⟩, B, bo, bt, len⟩ := h
  refine ⟨blk_set hg (blk_ne hg hgo (by decide)) _, ⟨_, blk_set ho (blk_ne ho hgo (by decide)) _, (Kd.R_putg hO v x).1⟩, ⟨vt, blk_set h3 (blk_ne h3 hgo (by decide)) _, Kd.R_set h4 hgo (by decide) _ _⟩, below_set B hb, bo, bt, by rw [List.length_set]; exact len⟩
theorem VInv.push {w0 W w1 : World} {Bg Bo Bt : Nat} {A0 : Option Addr} {c0 : Nat} {g : List (List Int)} {out : List Bool} {todo todo' : List Int} (h : VInv w0 W Bg Bo Bt A0 c0 g out todo) {v v1 : Value} (hT : Kd.R (Kd.int .i64) 3 W w0.heap.size (fun _ => True) v todo)
    (h1 : Kd.R (Kd.int .i64) 3 w1 w0.heap.size (fun _ => True) v1 todo') (hb : Below w0.heap.size w0 w1) (hg : W.grownBy w1 v.ownBlock) : VInv w0 (w1.setCell ⟨Bt, 0, none⟩ v1) Bg Bo Bt A0 c0 g out todo' ∧ w1.cell? ⟨Bt, 0, none⟩ ≠ none ∧ w1.frozen? ⟨Bt, 0, none⟩ = false := by
  obtain ⟨hg', ⟨vo, h5, h6⟩, ⟨vt, h3, h4⟩, B, bo, bt, len⟩ := h
  have e1 := grown_blk hg' (Kd.R_typed hT) (by decide) hg
  have e2 := grown_blk h5 (Kd.R_typed hT) (by decide) hg
  have e3 := grown_blk h3 (Kd.R_typed hT) (by decide) hg
  have e4 := Kd.R_over' h6 (Kd.R_typed hT) (by decide) hg
  refine ⟨⟨blk_set e1 (blk_ne e1 e3 (by decide)) _, ⟨vo, blk_set e2 (blk_ne e2 e3 (by decide)) _, Kd.R_set e4 e3 (by decide) _ _⟩, ⟨v1, one_setCell e3, Kd.R_set h1 e3 (by decide) _ _⟩, below_set hb bt, bo, bt, len⟩, by rw [cell_of_one e3]; simp, free_of_one e3⟩
/-- The row in the variable made shorter. -/
theorem VInv.cut {w0 w : World} {Bg Bo Bt : Nat} {A0 : Option Addr} {c0 : Nat} {g : List (List Int)} {out : List Bool} {todo todo' : List Int} (h : VInv w0 w Bg Bo Bt A0 c0 g out todo) {v1 : Value} (h1 : Kd.R (Kd.int .i64) 3 w w0.heap.size (fun _ => True) v1 todo') : VInv w0 (w.setCell ⟨Bt, 0, none⟩ v1) Bg Bo Bt A0 c0 g out todo' := by
  obtain ⟨hg', ⟨vo, h5, h6⟩, ⟨vt, h3, h4⟩, B, bo, bt, len⟩ := h
  exact ⟨blk_set hg' (blk_ne hg' h3 (by decide)) _, ⟨vo, blk_set h5 (blk_ne h5 h3 (by decide)) _, Kd.R_set h6 h3 (by decide) _ _⟩, ⟨v1, one_setCell h3, Kd.R_set h1 h3 (by decide) _ _⟩, below_set B bt, bo, bt, len⟩
theorem VInv.start {w w1 : World} {A0 : Option Addr} {c0 : Nat} {g : List (List Int)} {vo : Value} (ho : Kd.R Kd.bool 4 w1 w.heap.size (fun _ => True) vo (List.replicate g.length false)) (hb : Below w.heap.size w w1) (hg : (w.alloc (.cells #[.slice A0 g.length c0] 22)).grownBy w1 none) :
    VInv w ((w1.alloc (.cells #[vo] 34)).alloc (.cells #[.slice none 0 0] 26)) w.heap.size w1.heap.size (w1.heap.size + 1) A0 c0 g (List.replicate g.length false) [] := by
  have e0 := hg.block w.heap.size (by simp) (by simp)
  rw [alloc_new] at e0
  have b1 : Below w1.heap.size w1 (w1.alloc (.cells #[vo] 34)) := below_alloc (Below.refl _ _) _
  have b2 : Below (w1.alloc (.cells #[vo] 34)).heap.size (w1.alloc (.cells #[vo] 34)) ((w1.alloc (.cells #[vo] 34)).alloc (.cells #[.slice none 0 0] 26)) := below_alloc (Below.refl _ _) _
  have hs : (w1.alloc (.cells #[vo] 34)).heap.size = w1.heap.size + 1 := by simp
  have hz := hb.size
  refine ⟨blk_below (blk_below e0 b1) b2, ⟨vo, blk_below (alloc_new _ _) b2, Kd.R_below (Kd.R_below ho b1) b2⟩, ⟨.slice none 0 0, by rw [← hs]; exact alloc_new _ _, Kd.R_nil _ _ _ _ _⟩, below_alloc (below_alloc hb _) _, hz, by omega, by simp⟩

set_option maxHeartbeats 400000 in
theorem visit_out (w0 w : World) (Bg Bo Bt : Nat) (A0 : Option Addr) (c0 : Nat) (g : List (List Int)) (out : List Bool) (todo : List Int) (v : Int)
    (hr0 : Kd.C (Kd.slice 3 (Kd.int .i64)) w0 A0 g.length g) (hc0 : g.length ≤ c0) (h : VInv w0 w Bg Bo Bt A0 c0 g out todo) (hv : digraph_inside.f g v = some false) :
    Calls Try.prog 37 #[.int .i64 v, .pointer (some ⟨Bg, 0, none⟩), .pointer (some ⟨Bo, 0, none⟩), .pointer (some ⟨Bt, 0, none⟩)] w fun e w' => e = .returned (.tuple #[]) ∧ VInv w0 w' Bg Bo Bt A0 c0 g out todo := by
  have cg := cell_of_one h.hg
  have HV := Aside0.mk h
  have HV0 := Aside0.mk hv
  have HR := Aside0.mk (Kd.C_below hr0 h.B)
  clear hr0 h hv
  go_enter Try.func37, Try.ntmps37
  go_wp2_with (first | (go_at_call 32; refine (digraph_inside.calls _ _ _ _ _ _ HR.out hc0 HV0.out).mono ?_; rintro e w' ⟨rfl, ⟨n, rfl⟩⟩))
  go_end0
  exact ⟨rfl, HV.out.below (below_self _ _)⟩

set_option maxHeartbeats 400000 in
theorem visit_seen (w0 w : World) (Bg Bo Bt : Nat) (A0 : Option Addr) (c0 : Nat) (g : List (List Int)) (out : List Bool) (todo : List Int) (v : Int)
    (hr0 : Kd.C (Kd.slice 3 (Kd.int .i64)) w0 A0 g.length g) (hc0 : g.length ≤ c0) (h : VInv w0 w Bg Bo Bt A0 c0 g out todo) (hv0 : 0 ≤ v) (hv1 : v < g.length) (ho : rdOf false out v = true) :
    Calls Try.prog 37 #[.int .i64 v, .pointer (some ⟨Bg, 0, none⟩), .pointer (some ⟨Bo, 0, none⟩), .pointer (some ⟨Bt, 0, none⟩)] w fun e w' => e = .returned (.tuple #[]) ∧ VInv w0 w' Bg Bo Bt A0 c0 g out todo := by
  have cg := cell_of_one h.hg
  obtain ⟨vo, ho1, ho2⟩ := h.o
  have hl := h.len
  obtain ⟨go, co, rfl, hb1, hb2, _⟩ := Kd.R_form ho2 (by omega)
  have co1 := cell_of_one ho1
  obtain ⟨co2, _⟩ := Kd.R_celln false ho2 v hv0 (by omega)
  rw [ho] at co2
  have hin : digraph_inside.f g v = some true := by unfold digraph_inside.f; rw [if_pos hv0, decide_eq_true hv1]
  have HV := Aside0.mk h
  have HV0 := Aside0.mk hin
  have HR := Aside0.mk (Kd.C_below hr0 h.B)
  have hvo : v < (out.length : Int) := by omega
  clear hr0 h hin ho1 ho2 hl ho
  go_enter Try.func37, Try.ntmps37
  go_wp2_with (first | (go_at_call 32; refine (digraph_inside.calls _ _ _ _ _ _ HR.out hc0 HV0.out).mono ?_; rintro e w' ⟨rfl, ⟨n, rfl⟩⟩))
  go_end0
  exact ⟨rfl, HV.out.below (below_self _ _)⟩

set_option maxHeartbeats 400000 in
theorem visit_new (w0 w : World) (Bg Bo Bt : Nat) (A0 : Option Addr) (c0 : Nat) (g : List (List Int)) (out : List Bool) (todo : List Int) (v : Int)
    (hr0 : Kd.C (Kd.slice 3 (Kd.int .i64)) w0 A0 g.length g) (hc0 : g.length ≤ c0) (h : VInv w0 w Bg Bo Bt A0 c0 g out todo) (hv0 : 0 ≤ v) (hv1 : v < g.length) (ho : rdOf false out v = false) (hlim : todo.length < 17592186044416) :
    Calls Try.prog 37 #[.int .i64 v, .pointer (some ⟨Bg, 0, none⟩), .pointer (some ⟨Bo, 0, none⟩), .pointer (some ⟨Bt, 0, none⟩)] w fun e w' => e = .returned (.tuple #[]) ∧ VInv w0 w' Bg Bo Bt A0 c0 g (out.set v.toNat true) (todo ++ [v]) := by
  have cg := cell_of_one h.hg
  obtain ⟨vo, ho1, ho2⟩ := h.o
  have hl := h.len
  obtain ⟨go, co, rfl, hb1, hb2, hb3, hb4⟩ := Kd.R_form ho2 (by omega)
  have co1 := cell_of_one ho1
  obtain ⟨co2, fo2⟩ := Kd.R_celln false ho2 v hv0 (by omega)
  rw [ho] at co2
  have hin : digraph_inside.f g v = some true := by unfold digraph_inside.f; rw [if_pos hv0, decide_eq_true hv1]
  have HV := Aside0.mk h
  have HV0 := Aside0.mk hin
  have HR := Aside0.mk (Kd.C_below hr0 h.B)
  have hvo : v < (out.length : Int) := by omega
  have HP := Aside0.mk (fun n => VInv.put (h.below (below_self w n)) (Kd.R_below ho2 (below_self w n)) (blk_below ho1 (below_self w n)) (blk_below hb4 (below_self w n)) hb1 v true)
  clear hr0 h hin ho1 ho2 hl ho hb4
  go_enter Try.func37, Try.ntmps37
  go_wp2_with (first
    | (go_at_call 32; refine (digraph_inside.calls _ _ _ _ _ _ HR.out hc0 HV0.out).mono ?_; rintro e w' ⟨rfl, ⟨n, rfl⟩⟩)
    | ((with_reducible refine gate_store (t := 4) (p := 17) rfl ?_); refine store_event (t := 4) (p := 17) (v := .const (.bool true)) (w1 := ((w.drewN n).setCell ⟨go, v.toNat, none⟩ (.bool true))) rfl rfl rfl ?hr ?_; (case hr => first | (go_simp; done) | (go_simp; rfl)); intro w1 hw; have HV1 := Aside0.mk (HP.out n); rw [← hw] at HV1; clear hw; obtain ⟨vt, ht1, ht2⟩ := HV1.out.t; have ct1 := cell_of_one ht1; have HT := Aside0.mk ht2; clear ht1 ht2)
    | ((with_reducible refine gate_builtin (b := .append) (xs := #[.tmp 18, .tmp 20]) rfl ?_); at_builtin; refine Kd.R_append (Kd.int .i64) (w0 := w0) w0.heap.size rfl (.tmp 18) (.tmp 20) 26 3 (.int .i64 0) 8 rfl Try.underlying26 info3 rfl (by decide) (by omega) vt todo v [.int .i64 v] (fun _ => True) (fun _ => False) rfl rfl ?aP (fun _ hk => hk.elim) ?aF ?aO ?aB ?aS ?aL ?_; (case aP => exact rfl); (case aF => exact (fun _ _ => trivial)); (case aO => exact HT.out); (case aB => exact HV1.out.B); (case aS => exact HV1.out.B.size); (case aL => omega); intro v2 w2 ho hb hg hat; obtain ⟨A2, k2, rfl⟩ := Kd.R_slice ho; have HX := Aside0.mk (VInv.push HV1.out HT.out ho hb hg); obtain ⟨c2, hc2⟩ := Option.ne_none_iff_exists'.mp HX.out.2.1; have hf2 := HX.out.2.2; clear ho hb hg hat))
  go_end0
  have e_ := HX.out.1
  rw [List.length_append] at e_
  exact ⟨rfl, e_⟩

/-- One vertex: marked, and kept for later. -/
def visitM (g : List (List Int)) (out : List Bool) (todo : List Int) (v : Int) : Option (List Bool × List Int) :=
  if 0 ≤ v then (if v < (g.length : Int) then (if rdOf false out v = true then some (out, todo) else (if todo.length < 17592186044416 then some (out.set v.toNat true, todo ++ [v]) else none)) else some (out, todo)) else some (out, todo)
theorem visit_any (w0 w : World) (Bg Bo Bt : Nat) (A0 : Option Addr) (c0 : Nat) (g : List (List Int)) (out : List Bool) (todo : List Int) (v : Int) (p : List Bool × List Int)
    (hr0 : Kd.C (Kd.slice 3 (Kd.int .i64)) w0 A0 g.length g) (hc0 : g.length ≤ c0) (h : VInv w0 w Bg Bo Bt A0 c0 g out todo) (hp : visitM g out todo v = some p) :
    Calls Try.prog 37 #[.int .i64 v, .pointer (some ⟨Bg, 0, none⟩), .pointer (some ⟨Bo, 0, none⟩), .pointer (some ⟨Bt, 0, none⟩)] w fun e w' => e = .returned (.tuple #[]) ∧ VInv w0 w' Bg Bo Bt A0 c0 g p.1 p.2 := by
  unfold visitM at hp
  by_cases h0 : 0 ≤ v
  · rw [if_pos h0] at hp
    by_cases h1 : v < (g.length : Int)
    · rw [if_pos h1] at hp
      by_cases h2 : rdOf false out v = true
      · rw [if_pos h2] at hp
        cases hp
        exact visit_seen w0 w Bg Bo Bt A0 c0 g out todo v hr0 hc0 h h0 h1 h2
      · rw [if_neg h2] at hp
        by_cases h3 : todo.length < 17592186044416
        · rw [if_pos h3] at hp
          cases hp
          exact visit_new w0 w Bg Bo Bt A0 c0 g out todo v hr0 hc0 h h0 h1 (by simpa using h2) h3
        · rw [if_neg h3] at hp
          cases hp
    · rw [if_neg h1] at hp
      cases hp
      exact visit_out w0 w Bg Bo Bt A0 c0 g out todo v hr0 hc0 h (by unfold digraph_inside.f; rw [if_pos h0, decide_eq_false h1])
  · rw [if_neg h0] at hp
    cases hp
    exact visit_out w0 w Bg Bo Bt A0 c0 g out todo v hr0 hc0 h (by unfold digraph_inside.f; rw [if_neg h0])

mutual
def digraph_Reach.l0 : Nat → List (List Int) → List Int → List Bool → List Int → Int → Option (List Bool)
  | 0, _, _, _, _, _ => none
  | k + 1, g, xs, out, todo, i => if i < (xs.length : Int) then (if 0 ≤ i then ((visitM g out todo (rd xs i)).bind fun p => digraph_Reach.l0 k g xs p.1 p.2 (wrap64 (i + 1))) else none) else digraph_Reach.l1 k g out todo
def digraph_Reach.l1 : Nat → List (List Int) → List Bool → List Int → Option (List Bool)
  | 0, _, _, _ => none
  | k + 1, g, out, todo => if 0 < (todo.length : Int) then (if 0 ≤ rd todo ((todo.length : Int) - 1) then (if rd todo ((todo.length : Int) - 1) < (g.length : Int) then (digraph_Reach.l2 k g out (todo.take (todo.length - 1)) (rd_L1 g (rd todo ((todo.length : Int) - 1))) 0) else none) else none) else some out
def digraph_Reach.l2 : Nat → List (List Int) → List Bool → List Int → List Int → Int → Option (List Bool)
  | 0, _, _, _, _, _ => none
  | k + 1, g, out, todo, xs, i => if i < (xs.length : Int) then (if 0 ≤ i then ((visitM g out todo (rd xs i)).bind fun p => digraph_Reach.l2 k g p.1 p.2 xs (wrap64 (i + 1))) else none) else digraph_Reach.l1 k g out todo
end
def digraph_Reach.f (k : Nat) (l0 : List (List Int)) (l1 : List Int) : Option (List Bool) := if l0.length ≤ 281474976710656 then digraph_Reach.l0 k l0 l1 (List.replicate l0.length false) [] 0 else none
theorem digraph_Reach.mono_l : ∀ k, (∀ y0 y1 y2 y3 y4, LeO (digraph_Reach.l0 k y0 y1 y2 y3 y4) (digraph_Reach.l0 (k + 1) y0 y1 y2 y3 y4)) ∧ (∀ y0 y1 y2, LeO (digraph_Reach.l1 k y0 y1 y2) (digraph_Reach.l1 (k + 1) y0 y1 y2)) ∧ (∀ y0 y1 y2 y3 y4, LeO (digraph_Reach.l2 k y0 y1 y2 y3 y4) (digraph_Reach.l2 (k + 1) y0 y1 y2 y3 y4))
  | 0 => ⟨fun _ _ _ _ _ r h => by simp [digraph_Reach.l0] at h, fun _ _ _ r h => by simp [digraph_Reach.l1] at h, fun _ _ _ _ _ r h => by simp [digraph_Reach.l2] at h⟩
  | k + 1 => by
    obtain ⟨ih0, ih1, ih2⟩ := digraph_Reach.mono_l k
    refine ⟨?_, ?_, ?_⟩
    · intro y0 y1 y2 y3 y4
      unfold digraph_Reach.l0
      repeat' first | exact ih0 _ _ _ _ _ | exact ih1 _ _ _ | exact LeO.refl _ | exact LeO.none _ | refine LeO.ite ?_ ?_ | refine LeO.bind (LeO.refl _) (fun _ => ?_)
    · intro y0 y1 y2
      unfold digraph_Reach.l1
      repeat' first | exact ih2 _ _ _ _ _ | exact LeO.refl _ | exact LeO.none _ | refine LeO.ite ?_ ?_
    · intro y0 y1 y2 y3 y4
      unfold digraph_Reach.l2
      repeat' first | exact ih2 _ _ _ _ _ | exact ih1 _ _ _ | exact LeO.refl _ | exact LeO.none _ | refine LeO.ite ?_ ?_ | refine LeO.bind (LeO.refl _) (fun _ => ?_)
theorem digraph_Reach.mono : ∀ a0 a1 k, LeO (digraph_Reach.f k a0 a1) (digraph_Reach.f (k + 1) a0 a1) := by
  intro a0 a1 k
  unfold digraph_Reach.f
  exact LeO.ite ((digraph_Reach.mono_l k).1 _ _ _ _ _) (LeO.none _)
set_option maxHeartbeats 1000000 in
set_option maxRecDepth 100000 in
theorem digraph_Reach.calls (k : Nat) (A0 : Option Addr) (c0 : Nat) (l0 : List (List Int)) (A1 : Option Addr) (c1 : Nat) (l1 : List Int) (r : List Bool) (w : World) (hr0 : Kd.C (Kd.slice 3 (Kd.int .i64)) w A0 l0.length l0) (hc0 : l0.length ≤ c0) (hr1 : Kd.C (Kd.int .i64) w A1 l1.length l1) (hc1 : l1.length ≤ c1) (h : digraph_Reach.f k l0 l1 = some r) :
    Calls Try.prog 24 #[.slice A0 l0.length c0, .slice A1 l1.length c1] w fun e w' => ∃ v0_ : Value, e = .returned (v0_) ∧ Kd.R Kd.bool 4 w' w.heap.size (fun _ => True) v0_ r ∧ Below w.heap.size w w' := by
  have HR0 := Aside0.mk hr0
  have HC0 := Aside0.mk hc0
  have HR1 := Aside0.mk hr1
  clear hr0 hc0 hr1
  unfold digraph_Reach.f at h
  by_cases c2 : l0.length ≤ 281474976710656
  case neg => rw [if_neg c2] at h; cases h
  rw [if_pos c2] at h
  have H := Aside0.mk h
  clear h
  have hl0 : (0 : Int) ≤ (l0.length : Int) := by omega
  have hmf : ∀ (fn : Fn) (first cap : Array Value) (w : World), (Instr.makeFunc fn first cap).run Try.prog w = .ok (.func fn first cap) w := fun _ _ _ _ => rfl
  go_enter Try.func24, Try.ntmps24
  go_wp2_with (first
    | ((with_reducible refine gate_dst (N := 15) rfl ?_); refine Kd.R_make (w0 := w) Kd.bool w.heap.size 4 rfl (N := 15) rfl 34 _ _ rfl (l0.length : Int) rfl rfl Try.underlying34 (.bool false) 1 info4 rfl (by decide) (by omega) false (ok := fun _ => True) (okp := fun _ => True) rfl (fun _ hk => hk) trivial hl0 (by simpa using c2) (below_alloc (Below.refl _ _) _) (by simp) ?_; intro v1 w1 ho hb hg hnew; rw [Int.toNat_natCast] at ho; have HV := Aside0.mk (VInv.start ho hb hg); obtain ⟨A2, k2, e2⟩ := Kd.R_slice ho; subst e2; simp only [List.length_replicate] at HV; clear ho hb hg hnew))
  go_loopg [19] k (fun kq v19 w' => ∃ (i : Int) (out : List Bool) (todo : List Int), v19 = .int .i64 i ∧ Aside0 (digraph_Reach.l0 kq l0 l1 out todo i = some r) ∧ Aside0 (kq ≤ k) ∧ Aside0 (VInv w w' w.heap.size w1.heap.size (w1.heap.size + 1) A0 c0 l0 out todo))
  case atStart => exact ⟨0, _, _, rfl, H, ⟨Nat.le_refl _⟩, HV⟩
  case round =>
    clear H HV
    obtain ⟨i, out, todo, rfl, HA, HK1, HV⟩ := hrel
    cases gk with
    | zero => exact absurd HA.out (by simp [digraph_Reach.l0])
    | succ k1 =>
      have H := HA.out
      clear HA
      simp only [digraph_Reach.l0] at H
      by_cases c3 : i < (l1.length : Int)
      · rw [if_pos c3] at H
        have c3b0 : decide (i < (l1.length : Int)) = true := decide_eq_true c3
        by_cases c4 : 0 ≤ i
        case neg => rw [if_neg c4] at H; cases H
        rw [if_pos c4] at H
        obtain ⟨p, hp, hq⟩ := Option.bind_eq_some_iff.mp H
        have HP := Aside0.mk hp
        have HQ := Aside0.mk hq
        obtain ⟨ad, e1, hx⟩ := Kd.at_int HR1.out i c4 c3
        subst e1
        replace hx := (HV.out.B.cell (World.block_lt_of_cell? w _ hx)).trans hx
        clear H hp hq
        go_wp2_with (first | (go_at_call 37; refine (visit_any w _ _ _ _ _ _ _ _ _ _ _ HR0.out HC0.out HV.out HP.out).mono ?_; rintro e w2 ⟨rfl, HV2⟩; replace HV := Aside0.mk HV2; clear HV2))
        go_roundg k1
        case measure => have := HK1.out; omega
        case rel => exact ⟨_, _, _, rfl, HQ, ⟨by have := HK1.out; omega⟩, HV⟩
      · rw [if_neg c3] at H
        have c3b0 : decide (i < (l1.length : Int)) = false := decide_eq_false c3
        have H' := Aside0.mk H
        clear H
        go_wp2
        go_loopg [] k1 (fun kq w' => ∃ (out : List Bool) (todo : List Int), Aside0 (digraph_Reach.l1 kq l0 out todo = some r) ∧ Aside0 (kq ≤ k1) ∧ Aside0 (VInv w w' w.heap.size w1.heap.size (w1.heap.size + 1) A0 c0 l0 out todo))
        case atStart => exact ⟨_, _, H', ⟨Nat.le_refl _⟩, HV⟩
        case round =>
          clear H' HV c3b0 c3
          obtain ⟨out2, todo2, HA, HK2, HV⟩ := hrel
          cases gk with
          | zero => exact absurd HA.out (by simp [digraph_Reach.l1])
          | succ k2 =>
            have H := HA.out
            clear HA
            simp only [digraph_Reach.l1] at H
            obtain ⟨vt, ht1, ht2⟩ := HV.out.t
            have ct1 := cell_of_one ht1
            have cf1 := free_of_one ht1
            have cg1 := cell_of_one HV.out.hg
            by_cases c5 : 0 < (todo2.length : Int)
            · rw [if_pos c5] at H
              obtain ⟨gt, ct, rfl, hct, hlt, hx⟩ := R_last ht2 (by omega)
              have HT := Aside0.mk ht2
              clear ht2 ht1
              obtain ⟨v, hv⟩ : ∃ v, v = rd todo2 ((todo2.length : Int) - 1) := ⟨_, rfl⟩
              rw [← hv] at H hx
              by_cases c6 : 0 ≤ v
              case neg => rw [if_neg c6] at H; cases H
              rw [if_pos c6] at H
              by_cases c7 : v < (l0.length : Int)
              case neg => rw [if_neg c7] at H; cases H
              rw [if_pos c7] at H
              have H' := Aside0.mk H
              clear H hv
              obtain ⟨ad, A3, c3, e3, hx3, hl3, hi3⟩ := at_L1 HR0.out v c6 c7
              subst e3
              have HI3 := Aside0.mk hi3
              have c5b0 : decide (0 < (todo2.length : Int)) = true := decide_eq_true c5
              have c5b1 : decide (0 < todo2.length) = true := decide_eq_true (by omega)
              clear hi3 hl3
              have HC1 := Aside0.mk (VInv.cut HV.out (Kd.R_take (m := todo2.length - 1) HT.out (by omega)))
              have hx4 := (HC1.out.B.cell (World.block_lt_of_cell? w _ hx3)).trans hx3
              have cg2 := cell_of_one HC1.out.hg
              clear hx3
              go_wp2
              go_loopg [46] k2 (fun kq v46 w' => ∃ (j : Int) (out : List Bool) (todo : List Int), v46 = .int .i64 j ∧ Aside0 (digraph_Reach.l2 kq l0 out todo (rd_L1 l0 v) j = some r) ∧ Aside0 (kq ≤ k2) ∧ Aside0 (VInv w w' w.heap.size w1.heap.size (w1.heap.size + 1) (some ad) c0 l0 out todo))
              case atStart => exact ⟨0, _, _, rfl, H', ⟨Nat.le_refl _⟩, HC1⟩
              case round =>
                clear H' HV HT HC1 hx4 cg2 hx c5 c5b0 c5b1 hct hlt
                obtain ⟨j, out3, todo3, rfl, HA, HK3, HV⟩ := hrel
                cases gk with
                | zero => exact absurd HA.out (by simp [digraph_Reach.l2])
                | succ k3 =>
                  have H := HA.out
                  clear HA
                  simp only [digraph_Reach.l2] at H
                  by_cases c8 : j < ((rd_L1 l0 v).length : Int)
                  · rw [if_pos c8] at H
                    have c8b0 : decide (j < ((rd_L1 l0 v).length : Int)) = true := decide_eq_true c8
                    by_cases c9 : 0 ≤ j
                    case neg => rw [if_neg c9] at H; cases H
                    rw [if_pos c9] at H
                    obtain ⟨p, hp, hq⟩ := Option.bind_eq_some_iff.mp H
                    have HP := Aside0.mk hp
                    have HQ := Aside0.mk hq
                    obtain ⟨ad2, e4, hx5⟩ := Kd.at_int HI3.out j c9 c8
                    subst e4
                    replace hx5 := (HV.out.B.cell (World.block_lt_of_cell? w _ hx5)).trans hx5
                    clear H hp hq
                    go_wp2_with (first | (go_at_call 37; refine (visit_any w _ _ _ _ _ _ _ _ _ _ _ HR0.out HC0.out HV.out HP.out).mono ?_; rintro e w2 ⟨rfl, HV2⟩; replace HV := Aside0.mk HV2; clear HV2))
                    go_roundg k3
                    case measure => have := HK1.out; have := HK2.out; have := HK3.out; omega
                    case rel => exact ⟨_, _, _, rfl, HQ, ⟨by have := HK3.out; omega⟩, HV⟩
                  · rw [if_neg c8] at H
                    have c8b0 : decide (j < ((rd_L1 l0 v).length : Int)) = false := decide_eq_false c8
                    have H' := Aside0.mk H
                    clear H
                    go_wp2
                    go_roundg k3
                    case measure => have := HK1.out; have := HK2.out; have := HK3.out; omega
                    case rel => exact ⟨_, _, H', ⟨by have := HK3.out; have := HK2.out; omega⟩, HV⟩
            · rw [if_neg c5] at H
              obtain rfl := Option.some.inj H
              obtain ⟨A5, k5, rfl⟩ := Kd.R_slice ht2
              obtain ⟨vo, ho1, ho2⟩ := HV.out.o
              obtain ⟨A6, k6, rfl⟩ := Kd.R_slice ho2
              have co1 := cell_of_one ho1
              have HO := Aside0.mk ho2
              have c5b0 : decide (0 < (todo2.length : Int)) = false := decide_eq_false c5
              have c5b1 : decide (0 < todo2.length) = false := decide_eq_false (by omega)
              clear ht1 ht2 ho1 ho2 H c5
              go_wp2
              go_ret
              exact ⟨_, rfl, HO.out, HV.out.B⟩

end Go.Proofs.Ytcljocmblplhcaa.P
