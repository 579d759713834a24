/- Small facts on blocks and rows, beside the print's words. -/
import Derived.WalkKit
import Derived.OneCell
import Derived.Test.YtaoogghpadifiaaVAll
namespace Go.Proofs.Ytaoogghpadifiaa.P
open Go.RowKit Go.Proofs.YtaoogghpadifiaaW.PrintWords Go.Proofs.YtaoogghpadifiaaW.PrintLast Go.Proofs.YtaoogghpadifiaaW.PrintMore
theorem blk_apart {w : World} {a b t1 t2 : Nat} {c1 c2 : Array Value} (h1 : w.heap[a]? = some (.cells c1 t1 (0, 0))) (h2 : w.heap[b]? = some (.cells c2 t2 (0, 0))) (h : t1 ≠ t2) : a ≠ b := by
  rintro rfl
  rw [h1] at h2
  injection h2 with h2
  injection h2 with _ h2
  exact h h2
theorem blk_over {w : World} {a b o : Nat} {x : Obj} (h : w.heap[a]? = some x) (hne : a ≠ b) (u : Value) : (w.setCell ⟨b, o, none⟩ u).heap[a]? = some x := (Below.heap_setCell w ⟨b, o, none⟩ u a hne).trans h
theorem grown_blk {W w1 : World} {a t e : Nat} {c : Array Value} {v : Value} (h : W.heap[a]? = some (.cells c t (0, 0))) (hty : ∀ k, v.ownBlock = some k → ∃ cells, W.heap[k]? = some (.cells cells e (0, 0))) (ht : t ≠ e) (hg : W.grownBy w1 v.ownBlock) : w1.heap[a]? = some (.cells c t (0, 0)) := by
  refine (hg.block a (lt_of_block h) (fun he => ?_)).trans h
  obtain ⟨cells, hc⟩ := hty a he.symm
  exact blk_apart h hc ht rfl
theorem alloc_new (w : World) (o : Obj) : (w.alloc o).heap[w.heap.size]? = some o := by
  show (w.heap.push o)[w.heap.size]? = _
  simp






/-- Whatever was there is as it was. -/
def Stays (W W1 : World) : Prop := W.heap.size ≤ W1.heap.size ∧ ∀ i, i < W.heap.size → W1.heap[i]? = W.heap[i]?
theorem Stays.trans {a b c : World} (h : Stays a b) (k : Stays b c) : Stays a c := ⟨Nat.le_trans h.1 k.1, fun i hi => (k.2 i (by have := h.1; omega)).trans (h.2 i hi)⟩
theorem Stays.alloc (W : World) (o : Obj) : Stays W (W.alloc o) := ⟨by simp, fun i hi => by show (W.heap.push o)[i]? = _; simp [Array.getElem?_push, Nat.ne_of_lt hi]⟩
theorem Stays.grown {W W1 : World} (h : W.grownBy W1 none) : Stays W W1 := ⟨h.size, fun i hi => h.block i hi (by simp)⟩
theorem Stays.R {α : Type} {d : Kd α} {e base : Nat} {W W1 : World} {ok : Nat → Prop} {v : Value} {xs : List α} (h : Stays W W1) (hr : Kd.R d e W base ok v xs) : Kd.R d e W1 base ok v xs := Kd.R_step hr (fun k _ hk => h.2 k hk)



/-! ### a block's cells told at once; many stores into another block -/
theorem cf1 {w : World} {g : Nat} {t : TypeId} {c0 : Value} (h : w.heap[g]? = some (.cells #[c0] t (0, 0))) : w.cell? ⟨g, 0, none⟩ = some c0 ∧ w.frozen? ⟨g, 0, none⟩ = false :=
  ⟨(qBI h 0).trans rfl, qCJ h 0⟩
theorem cf2 {w : World} {g : Nat} {t : TypeId} {c0 c1 : Value} (h : w.heap[g]? = some (.cells #[c0, c1] t (0, 0))) : w.cell? ⟨g, 0, none⟩ = some c0 ∧ w.cell? ⟨g, 1, none⟩ = some c1 ∧ w.frozen? ⟨g, 0, none⟩ = false ∧ w.frozen? ⟨g, 1, none⟩ = false :=
  ⟨(qBI h 0).trans rfl, (qBI h 1).trans rfl, qCJ h 0, qCJ h 1⟩
theorem cf3 {w : World} {g : Nat} {t : TypeId} {c0 c1 c2 : Value} (h : w.heap[g]? = some (.cells #[c0, c1, c2] t (0, 0))) : w.cell? ⟨g, 0, none⟩ = some c0 ∧ w.cell? ⟨g, 1, none⟩ = some c1 ∧ w.cell? ⟨g, 2, none⟩ = some c2 ∧ w.frozen? ⟨g, 0, none⟩ = false ∧ w.frozen? ⟨g, 1, none⟩ = false ∧ w.frozen? ⟨g, 2, none⟩ = false :=
  ⟨(qBI h 0).trans rfl, (qBI h 1).trans rfl, (qBI h 2).trans rfl, qCJ h 0, qCJ h 1, qCJ h 2⟩
theorem cf4 {w : World} {g : Nat} {t : TypeId} {c0 c1 c2 c3 : Value} (h : w.heap[g]? = some (.cells #[c0, c1, c2, c3] t (0, 0))) : w.cell? ⟨g, 0, none⟩ = some c0 ∧ w.cell? ⟨g, 1, none⟩ = some c1 ∧ w.cell? ⟨g, 2, none⟩ = some c2 ∧ w.cell? ⟨g, 3, none⟩ = some c3 ∧ w.frozen? ⟨g, 0, none⟩ = false ∧ w.frozen? ⟨g, 1, none⟩ = false ∧ w.frozen? ⟨g, 2, none⟩ = false ∧ w.frozen? ⟨g, 3, none⟩ = false :=
  ⟨(qBI h 0).trans rfl, (qBI h 1).trans rfl, (qBI h 2).trans rfl, (qBI h 3).trans rfl, qCJ h 0, qCJ h 1, qCJ h 2, qCJ h 3⟩
theorem cf5 {w : World} {g : Nat} {t : TypeId} {c0 c1 c2 c3 c4 : Value} (h : w.heap[g]? = some (.cells #[c0, c1, c2, c3, c4] t (0, 0))) : w.cell? ⟨g, 0, none⟩ = some c0 ∧ w.cell? ⟨g, 1, none⟩ = some c1 ∧ w.cell? ⟨g, 2, none⟩ = some c2 ∧ w.cell? ⟨g, 3, none⟩ = some c3 ∧ w.cell? ⟨g, 4, none⟩ = some c4 ∧ w.frozen? ⟨g, 0, none⟩ = false ∧ w.frozen? ⟨g, 1, none⟩ = false ∧ w.frozen? ⟨g, 2, none⟩ = false ∧ w.frozen? ⟨g, 3, none⟩ = false ∧ w.frozen? ⟨g, 4, none⟩ = false :=
  ⟨(qBI h 0).trans rfl, (qBI h 1).trans rfl, (qBI h 2).trans rfl, (qBI h 3).trans rfl, (qBI h 4).trans rfl, qCJ h 0, qCJ h 1, qCJ h 2, qCJ h 3, qCJ h 4⟩
theorem far2 {w : World} {g : Nat} {a : Addr} (h : a.block ≠ g) {o0 o1 : Nat} {v0 v1 : Value} : ((w.setCell ⟨g, o0, none⟩ v0).setCell ⟨g, o1, none⟩ v1).cell? a = w.cell? a :=
  (qCK (p := ⟨g, _, none⟩) h _).trans ((qCK (p := ⟨g, _, none⟩) h _))
theorem far3 {w : World} {g : Nat} {a : Addr} (h : a.block ≠ g) {o0 o1 o2 : Nat} {v0 v1 v2 : Value} : (((w.setCell ⟨g, o0, none⟩ v0).setCell ⟨g, o1, none⟩ v1).setCell ⟨g, o2, none⟩ v2).cell? a = w.cell? a :=
  (qCK (p := ⟨g, _, none⟩) h _).trans ((qCK (p := ⟨g, _, none⟩) h _).trans ((qCK (p := ⟨g, _, none⟩) h _)))
/-! ### short names: what a tactic fills -/
theorem dq {p : Prop} [Decidable p] (h : decide p = true := by first | (with_reducible assumption) | assumption) : p := of_decide_eq_true h
theorem prs {p : Prop} (h : p := by first | rfl | (simp; done) | (simp [*]; done)) : p := h
theorem pbl {p : Prop} (h : p := by repeat (first | (with_reducible first | exact HB.out | apply qCA | apply qCC | apply qCB) | exact HB.out)) : p := h
theorem pgz {p : Prop} (h : p := by (try simp only [List.map_toArray, List.map_cons, List.map_nil]); first | done | rfl | (simp only [List.length_drop, List.length_take]; rfl)) : p := h
theorem per {p : Prop} (h : p := by first | rfl | (simp [errW_none, errW_some] <;> rfl) | (simp [*, errW_none, errW_some] <;> rfl)) : p := h
theorem pbg {p : Prop} (h : p := by repeat (first | (with_reducible first | exact HB.out | apply qCA | apply qCC | apply qCB | refine qCN ?_ (Aside0.out (by assumption))) | exact HB.out)) : p := h
theorem dw1 {α : Type} {a : α} {w : World} {m n : Nat} : a = a ∧ ∃ k, (w.drewN m).drewN n = w.drewN k := ⟨rfl, _, World.drewN_drewN _ _ _⟩
theorem csd {p q : Prop} (h : p) (hq : p → q := by intro h_; repeat (first | exact h_ | (with_reducible refine Kd.C_alloc ?_ _) | (with_reducible refine Kd.C_drewN ?_ _) | (with_reducible refine Kd.C_drew ?_))) : q := hq h
theorem pbk {p q : Prop} (h : p) (hq : p → q := by intro h_; (with_reducible repeat (first | refine qBK ?_ _ | refine qBM ?_ | refine qBL ?_ _)); exact h_) : q := hq h
theorem box_ev {P : Program} {ops : Array Oper} {rest : List Oper} {o : Oper} {a : Act} {Q : Exit → Act → World → Prop} {W : World} {N : Tmp} {cs : Array Value} {t : TypeId}
    (h : ∀ g, g = W.heap.size → ∀ w1, w1.heap[g]? = some (.cells cs t (0, 0)) → Below W.heap.size W w1 → wpList P ops Q rest (a.put o.dst (.pointer (some ⟨g, 0, none⟩))) w1)
    (hgd : o.guard = none := by rfl) (hd : o.dst = some N := by rfl)
    (hrun : (execOp a.eval o).run P W = .ok (.value (.pointer (some ⟨W.heap.size, 0, none⟩))) (W.alloc (.cells cs t (0, 0))) := by first | (go_simp; done) | (go_simp; rfl)) : wpList P ops Q (o :: rest) a W := box_event hgd hd hrun h
theorem bf2 {w : World} {g b o0 o1 : Nat} {t : TypeId} {cs : Array Value} {v0 v1 : Value} (h : w.heap[g]? = some (.cells cs t (0, 0))) (hp : g ≠ b) : ((w.setCell ⟨b, o0, none⟩ v0).setCell ⟨b, o1, none⟩ v1).heap[g]? = some (.cells cs t (0, 0)) := (blk_far (blk_far h (p := ⟨b, _, none⟩) hp _) (p := ⟨b, _, none⟩) hp _)
theorem bf3 {w : World} {g b o0 o1 o2 : Nat} {t : TypeId} {cs : Array Value} {v0 v1 v2 : Value} (h : w.heap[g]? = some (.cells cs t (0, 0))) (hp : g ≠ b) : (((w.setCell ⟨b, o0, none⟩ v0).setCell ⟨b, o1, none⟩ v1).setCell ⟨b, o2, none⟩ v2).heap[g]? = some (.cells cs t (0, 0)) := (blk_far (blk_far (blk_far h (p := ⟨b, _, none⟩) hp _) (p := ⟨b, _, none⟩) hp _) (p := ⟨b, _, none⟩) hp _)
theorem bf4 {w : World} {g b o0 o1 o2 o3 : Nat} {t : TypeId} {cs : Array Value} {v0 v1 v2 v3 : Value} (h : w.heap[g]? = some (.cells cs t (0, 0))) (hp : g ≠ b) : ((((w.setCell ⟨b, o0, none⟩ v0).setCell ⟨b, o1, none⟩ v1).setCell ⟨b, o2, none⟩ v2).setCell ⟨b, o3, none⟩ v3).heap[g]? = some (.cells cs t (0, 0)) := (blk_far (blk_far (blk_far (blk_far h (p := ⟨b, _, none⟩) hp _) (p := ⟨b, _, none⟩) hp _) (p := ⟨b, _, none⟩) hp _) (p := ⟨b, _, none⟩) hp _)
theorem bf5 {w : World} {g b o0 o1 o2 o3 o4 : Nat} {t : TypeId} {cs : Array Value} {v0 v1 v2 v3 v4 : Value} (h : w.heap[g]? = some (.cells cs t (0, 0))) (hp : g ≠ b) : (((((w.setCell ⟨b, o0, none⟩ v0).setCell ⟨b, o1, none⟩ v1).setCell ⟨b, o2, none⟩ v2).setCell ⟨b, o3, none⟩ v3).setCell ⟨b, o4, none⟩ v4).heap[g]? = some (.cells cs t (0, 0)) := (blk_far (blk_far (blk_far (blk_far (blk_far h (p := ⟨b, _, none⟩) hp _) (p := ⟨b, _, none⟩) hp _) (p := ⟨b, _, none⟩) hp _) (p := ⟨b, _, none⟩) hp _) (p := ⟨b, _, none⟩) hp _)
theorem pkr {p q : Prop} (h : p) (hq : p → q := by intro h_; (with_reducible repeat (first | apply Kd.R_alloc | apply Kd.R_drewN | apply Kd.R_drew)); exact h_) : q := hq h
theorem pkn {p q : Prop} (h : p) (hq : p → q := by intro h_; (with_reducible repeat (first | apply Kd.N_alloc | apply Kd.N_drewN | apply Kd.N_drew)); exact h_) : q := hq h
theorem pkv {p q : Prop} (h : p) (hq : p → q := by intro h_; (with_reducible repeat (first | apply Kd.V_alloc | apply Kd.V_drewN | apply Kd.V_drew)); exact h_) : q := hq h
theorem cbl {w w1 : World} (h : Below w.heap.size w w1) {a : Addr} {v : Value} (hc : w.cell? a = some v) : w1.cell? a = some v := (h.cell (World.block_lt_of_cell? w a hc)).trans hc
theorem ifp {α : Type} {c : Prop} {i : Decidable c} {a : Option α} {r : α} (h : (if c then a else none) = some r) : c ∧ a = some r := by
  by_cases hc : c
  · rw [if_pos hc] at h; exact ⟨hc, h⟩
  · rw [if_neg hc] at h; cases h
theorem bnd {α β : Type} {g : Option α} {f : α → Option β} {r : β} (h : g.bind f = some r) : ∃ t, Aside0 (g = some t) ∧ f t = some r := by
  obtain ⟨t, h1, h2⟩ := Option.bind_eq_some_iff.mp h
  exact ⟨t, ⟨h1⟩, h2⟩
theorem am {p : Prop} (h : p) : Aside0 p := ⟨h⟩
theorem bst {w W w2 : World} (k : Below W.heap.size W w2) (h : Below w.heap.size w W := by repeat (first | (with_reducible first | exact HB.out | apply qCA | apply qCC | apply qCB | refine qCN ?_ (Aside0.out (by assumption))) | exact HB.out)) : Aside0 (Below w.heap.size w w2) := ⟨below_step h k⟩
theorem bsl {w W w2 : World} (k : Below W.heap.size W w2) (h : Below w.heap.size w W := by repeat (first | (with_reducible first | exact HB.out | apply qCA | apply qCC | apply qCB) | exact HB.out)) : Aside0 (Below w.heap.size w w2) := ⟨below_step h k⟩
theorem gwb {w W : World} {g : Nat} (hg : g = W.heap.size) (h : Below w.heap.size w W := by repeat (first | (with_reducible first | exact HB.out | apply qCA | apply qCC | apply qCB | refine qCN ?_ (Aside0.out (by assumption))) | exact HB.out)) : Aside0 (w.heap.size ≤ g) := ⟨hg ▸ qBJ h⟩
theorem gwl {w W : World} {g : Nat} (hg : g = W.heap.size) (h : Below w.heap.size w W := by repeat (first | (with_reducible first | exact HB.out | apply qCA | apply qCC | apply qCB) | exact HB.out)) : Aside0 (w.heap.size ≤ g) := ⟨hg ▸ qBJ h⟩
theorem nlt {w0 W : World} {g b : Nat} {o : Obj} (hg : g = W.heap.size) (H : Aside0 (w0.heap[b]? = some o)) (hq : w0.heap[b]? = some o → W.heap[b]? = some o := by intro h_; (with_reducible repeat (first | refine qBK ?_ _ | refine qBM ?_ | refine qBL ?_ _)); exact h_) : Aside0 (b ≠ g) := ⟨hg ▸ Nat.ne_of_lt (blk_lt (hq H.out))⟩
theorem ngt {w0 W : World} {g b : Nat} {o : Obj} (hg : g = W.heap.size) (H : Aside0 (w0.heap[b]? = some o)) (hq : w0.heap[b]? = some o → W.heap[b]? = some o := by intro h_; (with_reducible repeat (first | refine qBK ?_ _ | refine qBM ?_ | refine qBL ?_ _)); exact h_) : Aside0 (g ≠ b) := ⟨hg ▸ Nat.ne_of_gt (blk_lt (hq H.out))⟩
theorem bbh {w0 w1 w2 : World} {g : Nat} {o : Obj} (H : Aside0 (w0.heap[g]? = some o)) (hb : Below w1.heap.size w1 w2) (hq : w0.heap[g]? = some o → w1.heap[g]? = some o := by intro h_; (with_reducible repeat (first | refine qBK ?_ _ | refine qBM ?_ | refine qBL ?_ _)); exact h_) : Aside0 (w2.heap[g]? = some o) := ⟨qCF (hq H.out) hb⟩
theorem rbw {α : Type} {d : Kd α} {e base : Nat} {ok : Nat → Prop} {W w1 : World} {v : Value} {xs : List α} {W0 : World} (H : Aside0 (Kd.R d e W0 base ok v xs)) (hb : Below W.heap.size W w1) (hq : Kd.R d e W0 base ok v xs → Kd.R d e W base ok v xs := by intro h_; (with_reducible repeat (first | apply Kd.R_alloc | apply Kd.R_drewN | apply Kd.R_drew)); exact h_) : Aside0 (Kd.R d e w1 base ok v xs) := ⟨Kd.R_below (hq H.out) hb⟩
theorem nbw {α : Type} {d : Kd α} {e base : Nat} {ok : Nat → Prop} {W w1 : World} {v : Value} {xs : List α} {W0 : World} (H : Aside0 (Kd.N d e W0 base ok v xs)) (hb : Below W.heap.size W w1) (hq : Kd.N d e W0 base ok v xs → Kd.N d e W base ok v xs := by intro h_; (with_reducible repeat (first | apply Kd.N_alloc | apply Kd.N_drewN | apply Kd.N_drew)); exact h_) : Aside0 (Kd.N d e w1 base ok v xs) := ⟨Kd.N_below (hq H.out) hb⟩
theorem vbw {α : Type} {d : Kd α} {e base : Nat} {ok : Nat → Prop} {W w1 : World} {v : Value} {xs : List α} {W0 : World} (H : Aside0 (Kd.V d e W0 base ok v xs)) (hb : Below W.heap.size W w1) (hq : Kd.V d e W0 base ok v xs → Kd.V d e W base ok v xs := by intro h_; (with_reducible repeat (first | apply Kd.V_alloc | apply Kd.V_drewN | apply Kd.V_drew)); exact h_) : Aside0 (Kd.V d e w1 base ok v xs) := ⟨Kd.V_below (hq H.out) hb⟩
theorem vbb {α : Type} {d : Kd α} {e base : Nat} {ok : Nat → Prop} {W w1 : World} {v : Value} {xs : List α} {W0 : World} {g : Nat} (H : Aside0 (Kd.V d e W0 base ok v xs)) (hg : g = W.heap.size) (hb : Below W.heap.size W w1) (hq : Kd.V d e W0 base ok v xs → Kd.V d e W base ok v xs := by intro h_; (with_reducible repeat (first | apply Kd.V_alloc | apply Kd.V_drewN | apply Kd.V_drew)); exact h_) : Aside0 (Kd.V d e w1 base (fun k => ok k ∧ k ≠ g) v xs) := ⟨Kd.V_below (Kd.V_elderB (hq H.out) g (Nat.le_of_eq hg.symm)) hb⟩
theorem cbb {α : Type} {d : Kd α} {A : Option Addr} {n : Nat} {xs : List α} {W w1 : World} {W0 : World} (H : Aside0 (Kd.C d W0 A n xs)) (hb : Below W.heap.size W w1) (hq : Kd.C d W0 A n xs → Kd.C d W A n xs := by intro h_; repeat (first | (with_reducible exact h_) | (with_reducible refine Kd.C_alloc ?_ _) | (with_reducible refine Kd.C_drewN ?_ _) | (with_reducible refine Kd.C_drew ?_) | exact h_)) : Aside0 (Kd.C d w1 A n xs) := ⟨Kd.qCG (hq H.out) hb⟩
theorem csb {α : Type} {d : Kd α} {A : Option Addr} {n : Nat} {xs : List α} {w w1 : World} {q : Prop} (h : Aside0 (Kd.C d w A n xs)) (hb : Aside0 (Below w.heap.size w w1)) (hq : Kd.C d w1 A n xs → q := by intro h_; repeat (first | exact h_ | (with_reducible refine Kd.C_alloc ?_ _) | (with_reducible refine Kd.C_drewN ?_ _) | (with_reducible refine Kd.C_drew ?_))) : q := hq (Kd.qCG h.out hb.out)
theorem knl {p : Prop} (h : p := by first | exact Kd.S_nil _ _ _ _ _ | exact Kd.N_nil _ _ _ _ _ | exact Kd.V_nil _ _ _ _ _ | exact Kd.Q_nil _ _ _ _ _ | exact Kd.R_nil _ _ _ _ _) : p := h
theorem pdr {p : Prop} (h : p := by repeat (first | exact Drawn0.refl _ | apply Drawn0.step)) : p := h
theorem wr2 {a b c : Int} {v : Bool} (h : decide (c < wrap64 (wrap64 a + b)) = v) : decide (c < IntKind.i64.wrap (IntKind.i64.wrap a + b)) = v := by rw [i64_w, i64_w]; exact h
theorem hrp {α β : Type} {a b : α} {x : Option β} {r : β} {p : Prop} (e : a = b) (h : x = some r) (hq : a = b → x = some r → p := by intro hy H; first | (rw [hy]; with_reducible exact H) | (have H2_ := (Option.bind_some _ _).symm.trans H; rw [hy]; with_reducible exact H2_) | (have H2_ := (Option.bind_some _ _).symm.trans H; with_reducible exact H2_) | with_reducible exact H | (rw [hy]; exact H) | exact H) : p := hq e h
theorem bp2 {w : World} {g : Nat} {t : TypeId} {c0 c1 v0 v1 : Value} (h : w.heap[g]? = some (.cells #[c0, c1] t (0, 0))) : ((w.setCell ⟨g, 0, none⟩ v0).setCell ⟨g, 1, none⟩ v1).heap[g]? = some (.cells #[v0, v1] t (0, 0)) := (blk_put (cs := #[v0, c1]) (blk_put (cs := #[c0, c1]) h 0 _ rfl) 1 _ rfl)
theorem bp3 {w : World} {g : Nat} {t : TypeId} {c0 c1 c2 v0 v1 v2 : Value} (h : w.heap[g]? = some (.cells #[c0, c1, c2] t (0, 0))) : (((w.setCell ⟨g, 0, none⟩ v0).setCell ⟨g, 1, none⟩ v1).setCell ⟨g, 2, none⟩ v2).heap[g]? = some (.cells #[v0, v1, v2] t (0, 0)) := (blk_put (cs := #[v0, v1, c2]) (blk_put (cs := #[v0, c1, c2]) (blk_put (cs := #[c0, c1, c2]) h 0 _ rfl) 1 _ rfl) 2 _ rfl)
theorem bp4 {w : World} {g : Nat} {t : TypeId} {c0 c1 c2 c3 v0 v1 v2 v3 : Value} (h : w.heap[g]? = some (.cells #[c0, c1, c2, c3] t (0, 0))) : ((((w.setCell ⟨g, 0, none⟩ v0).setCell ⟨g, 1, none⟩ v1).setCell ⟨g, 2, none⟩ v2).setCell ⟨g, 3, none⟩ v3).heap[g]? = some (.cells #[v0, v1, v2, v3] t (0, 0)) := (blk_put (cs := #[v0, v1, v2, c3]) (blk_put (cs := #[v0, v1, c2, c3]) (blk_put (cs := #[v0, c1, c2, c3]) (blk_put (cs := #[c0, c1, c2, c3]) h 0 _ rfl) 1 _ rfl) 2 _ rfl) 3 _ rfl)
theorem bp5 {w : World} {g : Nat} {t : TypeId} {c0 c1 c2 c3 c4 v0 v1 v2 v3 v4 : Value} (h : w.heap[g]? = some (.cells #[c0, c1, c2, c3, c4] t (0, 0))) : (((((w.setCell ⟨g, 0, none⟩ v0).setCell ⟨g, 1, none⟩ v1).setCell ⟨g, 2, none⟩ v2).setCell ⟨g, 3, none⟩ v3).setCell ⟨g, 4, none⟩ v4).heap[g]? = some (.cells #[v0, v1, v2, v3, v4] t (0, 0)) := (blk_put (cs := #[v0, v1, v2, v3, c4]) (blk_put (cs := #[v0, v1, v2, c3, c4]) (blk_put (cs := #[v0, v1, c2, c3, c4]) (blk_put (cs := #[v0, c1, c2, c3, c4]) (blk_put (cs := #[c0, c1, c2, c3, c4]) h 0 _ rfl) 1 _ rfl) 2 _ rfl) 3 _ rfl) 4 _ rfl)
theorem gC {P : Program} {ops : Array Oper} {rest : List Oper} {oi : Oper} {a : Act} {Q : Exit → Act → World → Prop} {w : World} {f : FuncId} {fn : Func} {as : Array Operand} {ts : Array TypeId} {R : Ending → World → Prop} (N : Nat) (hf : P.funcs[f]? = some fn) (args : Array Value)
    (hc : Calls P f args w R) (h : ∀ e w', R e w' → ∃ v, e = .returned v ∧ wpList P ops Q rest (a.put (some N) v) w') (hop : oi.op = .call { callee := .value (.func f), args := as, argTypes := ts } := by rfl)
    (hargs : as.map a.eval = args := by (try simp only [List.map_toArray, List.map_cons, List.map_nil]); first | done | rfl | (simp only [List.length_drop, List.length_take]; rfl))
    (hd : oi.dst = some N := by rfl) (hg : oi.guard = none := by rfl) (hname : (fn.name == "runtime.NumGoroutine") = false := by kernel_rfl) (hb : fn.body.isSome = true := by rfl) : wpList P ops Q (oi :: rest) a w :=
  goesL_ (some N) hd hg hf hname hb args hop hargs (hc.mono h)
abbrev M3 {A0 A1 A2 R : Type} (f : Nat → A0 → A1 → A2 → Option R) (k : Nat) : Prop := ∀ x0 x1 x2, LeO (f k x0 x1 x2) (f (k + 1) x0 x1 x2)
abbrev M4 {A0 A1 A2 A3 R : Type} (f : Nat → A0 → A1 → A2 → A3 → Option R) (k : Nat) : Prop := ∀ x0 x1 x2 x3, LeO (f k x0 x1 x2 x3) (f (k + 1) x0 x1 x2 x3)
abbrev M5 {A0 A1 A2 A3 A4 R : Type} (f : Nat → A0 → A1 → A2 → A3 → A4 → Option R) (k : Nat) : Prop := ∀ x0 x1 x2 x3 x4, LeO (f k x0 x1 x2 x3 x4) (f (k + 1) x0 x1 x2 x3 x4)
abbrev M6 {A0 A1 A2 A3 A4 A5 R : Type} (f : Nat → A0 → A1 → A2 → A3 → A4 → A5 → Option R) (k : Nat) : Prop := ∀ x0 x1 x2 x3 x4 x5, LeO (f k x0 x1 x2 x3 x4 x5) (f (k + 1) x0 x1 x2 x3 x4 x5)
abbrev M7 {A0 A1 A2 A3 A4 A5 A6 R : Type} (f : Nat → A0 → A1 → A2 → A3 → A4 → A5 → A6 → Option R) (k : Nat) : Prop := ∀ x0 x1 x2 x3 x4 x5 x6, LeO (f k x0 x1 x2 x3 x4 x5 x6) (f (k + 1) x0 x1 x2 x3 x4 x5 x6)
abbrev M8 {A0 A1 A2 A3 A4 A5 A6 A7 R : Type} (f : Nat → A0 → A1 → A2 → A3 → A4 → A5 → A6 → A7 → Option R) (k : Nat) : Prop := ∀ x0 x1 x2 x3 x4 x5 x6 x7, LeO (f k x0 x1 x2 x3 x4 x5 x6 x7) (f (k + 1) x0 x1 x2 x3 x4 x5 x6 x7)
abbrev M9 {A0 A1 A2 A3 A4 A5 A6 A7 A8 R : Type} (f : Nat → A0 → A1 → A2 → A3 → A4 → A5 → A6 → A7 → A8 → Option R) (k : Nat) : Prop := ∀ x0 x1 x2 x3 x4 x5 x6 x7 x8, LeO (f k x0 x1 x2 x3 x4 x5 x6 x7 x8) (f (k + 1) x0 x1 x2 x3 x4 x5 x6 x7 x8)
theorem li {α : Type} {c : Prop} [Decidable c] {a a' b b' : Option α} (h : LeO a a') (k : LeO b b') : LeO (if c then a else b) (if c then a' else b') := LeO.ite h k
theorem lb {α β : Type} {a a' : Option α} {f f' : α → Option β} (h : LeO a a') (k : ∀ x, LeO (f x) (f' x)) : LeO (a.bind f) (a'.bind f') := LeO.bind h k
theorem lr {α : Type} {a : Option α} : LeO a a := LeO.refl _
/-! ### Reads of elements as one step (slim5.py). -/
theorem dint {w : World} {A : Option Addr} {n : Nat} {k : IntKind} {xs : List Int} (h : (Kd.int k).C w A n xs) (i : Int) (h0 : 0 ≤ i := by exact dq) (h1 : i < n := by exact dq) : (0 ≤ i) = True ∧ (i < n) = True ∧ ∃ ad, A = some ad ∧ w.cell? (ad.add i.toNat) = some (.int k (rd xs i)) :=
 match Kd.at_int h i h0 h1 with | ⟨ad, x0, x1⟩ => ⟨eq_true h0, eq_true h1, ad, x0, x1⟩
theorem bint {w w1 : World} {A : Option Addr} {n : Nat} {k : IntKind} {xs : List Int} (h : (Kd.int k).C w A n xs) (hb : Below w.heap.size w w1) (i : Int) (h0 : 0 ≤ i := by exact dq) (h1 : i < n := by exact dq) : (0 ≤ i) = True ∧ (i < n) = True ∧ ∃ ad, A = some ad ∧ w1.cell? (ad.add i.toNat) = some (.int k (rd xs i)) :=
 match Kd.at_int h i h0 h1 with | ⟨ad, x0, x1⟩ => ⟨eq_true h0, eq_true h1, ad, x0, cbl hb x1⟩
theorem dbool {w : World} {A : Option Addr} {n : Nat} {xs : List Bool} (h : Kd.bool.C w A n xs) (i : Int) (h0 : 0 ≤ i := by exact dq) (h1 : i < n := by exact dq) : (0 ≤ i) = True ∧ (i < n) = True ∧ ∃ ad, A = some ad ∧ w.cell? (ad.add i.toNat) = some (.bool (rdOf false xs i)) :=
 match Kd.at_bool h i h0 h1 with | ⟨ad, x0, x1⟩ => ⟨eq_true h0, eq_true h1, ad, x0, x1⟩
theorem dbt (s : ByteArray) (i : Int) (h0 : 0 ≤ i := by exact dq) (h1 : i < (s.size : Int) := by exact dq) : (0 ≤ i) = True ∧ (i < (s.size : Int)) = True ∧ ∀ h : i.toNat < s.size, ((s[i.toNat]'h).toNat : Int) = bt s i := ⟨eq_true h0, eq_true h1, bt_at s i⟩
/-! ### The steps of a region in an open order (slim5.py). -/
section
variable {P : Program} {md : Region.Mode} {ops : Array Oper} {Q : Exit → Act → World → Prop} {S : World → Prop} {ds : List Nat} {T : Bool × List (List Nat × List Nat)} {B : List Nat} {fuel : Nat} {l l' : Array Bool} {a a' : Act} {w : World} {oi : Oper} {v : Value}
theorem pu (hT : rtab md ops = T) (i N : Nat) (h : qBZ P md ops Q S ds fuel l' a' w) (hi : ops[i]? = some oi := by rfl) (hN : oi.dst = some N := by rfl)
  (_hl : l.setIfInBounds i true = l' := by simp only [List.setIfInBounds_toArray, List.set_cons_zero, List.set_cons_succ]; rfl) (hc : anyT T l.toList l'.toList i = true := by kernel_rfl)
  (hQ : ∀ c a w, Q (.panic c) (a.put oi.dst v) w → Q (.panic c) a w := by exact fun _ _ _ h => h) (hy : Yields P ops oi v a := by refine Or.inl ⟨by rfl, ?_⟩; intro w'; go_simp; with_reducible rfl)
  (ha : a.put (some N) v = a' := by simp only [Act.put, List.setIfInBounds_toArray, List.set_cons_zero, List.set_cons_succ, i64_w, i32_w]; rfl) : qBZ P md ops Q S ds (fuel + 1) l a w := pure_ l' hi hN (any_of hT hc) hQ hy ha h
theorem pd (hT : rtab md ops = T) (i N : Nat) (h : qBZ P md ops Q S ds fuel l' a' w) (hi : ops[i]? = some oi := by rfl) (hN : oi.dst = some N := by rfl)
  (_hl : l.setIfInBounds i true = l' := by simp only [List.setIfInBounds_toArray, List.set_cons_zero, List.set_cons_succ]; rfl) (hc : anyT T l.toList l'.toList i = true := by kernel_rfl)
  (hQ : ∀ c a w, Q (.panic c) (a.put oi.dst undef) w → Q (.panic c) a w := by exact fun _ _ _ h => h) (hy : Yields P ops oi undef a := by exact Or.inr ⟨by rfl, rfl⟩)
  (ha : a.put (some N) undef = a' := by simp only [Act.put, List.setIfInBounds_toArray, List.set_cons_zero, List.set_cons_succ, i64_w, i32_w]; rfl) : qBZ P md ops Q S ds (fuel + 1) l a w := pure_ l' hi hN (any_of hT hc) hQ hy ha h
theorem tk (hT : rtab md ops = T) (hB : waitsOk T.2 B = true) (hS : S w) (i N : Nat) (h : qBZ P md ops Q S ds fuel l' a' w) (hi : ops[i]? = some oi := by rfl) (hN : oi.dst = some N := by rfl)
  (_hl : l.setIfInBounds i true = l' := by simp only [List.setIfInBounds_toArray, List.set_cons_zero, List.set_cons_succ]; rfl) (hc : takeW T B ds l.toList l'.toList i = true := by kernel_rfl)
  (hQ : ∀ c a w, Q (.panic c) (a.put oi.dst v) w → Q (.panic c) a w := by exact fun _ _ _ h => h) (hy : YieldsIf P ops S oi v a := by refine Or.inl ⟨by rfl, ?_⟩; intro w' s_; go_simp; with_reducible rfl)
  (ha : a.put (some N) v = a' := by simp only [Act.put, List.setIfInBounds_toArray, List.set_cons_zero, List.set_cons_succ, i64_w, i32_w]; rfl) : qBZ P md ops Q S ds (fuel + 1) l a w := take_ l' hi hN (take_ofW hT hB hc) hQ hy hS ha h
theorem on (hT : rtab md ops = T) (i : Nat) (N' : Option Tmp) (hi : ops[i]? = some oi)
  (h : ∀ K : Act → World → Prop, Shut (∀ a' w', S w' → (S w' → qBZ P md ops Q S ds fuel l' a' w') → K a' w') → if Region.wanted oi (yielded ops a.tmps) = true then Oper.wp P oi a w K Q else K (a.put N' undef) w)
  (hN : oi.dst = N' := by rfl) (_hl : l.setIfInBounds i true = l' := by simp only [List.setIfInBounds_toArray, List.set_cons_zero, List.set_cons_succ]; rfl)
  (hc : (readyT T.2 l.toList == [i] && l.toList.set i true == l'.toList) = true := by kernel_rfl) (hd : i ∉ ds := by decide) : qBZ P md ops Q S ds (fuel + 1) l a w := one_ l' hi hN (one_of hT hc) hd h
theorem la (hT : rtab md ops = T) (i : Nat) (N' : Option Tmp) (hi : ops[i]? = some oi)
  (h : ∀ K : Act → World → Prop, Shut (∀ a' w', qBZ P md ops Q S ds fuel l' a' w' → K a' w') → if Region.wanted oi (yielded ops a.tmps) = true then Oper.wp P oi a w K Q else K (a.put N' undef) w)
  (hN : oi.dst = N' := by rfl) (_hl : l.setIfInBounds i true = l' := by simp only [List.setIfInBounds_toArray, List.set_cons_zero, List.set_cons_succ]; rfl)
  (hc : (readyT T.2 l.toList == [i] && l.toList.set i true == l'.toList) = true := by kernel_rfl) (hd : i ∈ ds := by decide) : qBZ P md ops Q S ds (fuel + 1) l a w := last_ l' hi hN (one_of hT hc) hd h
theorem nm_ (N : Nat) {a0 : Act} (h : qBZ P md ops Q S ds fuel l a' w) (e : a = a0.put (some N) v := by rfl) (ha : a0.put (some N) v = a' := by simp only [Act.put, List.setIfInBounds_toArray, List.set_cons_zero, List.set_cons_succ, i64_w, i32_w]; rfl) : qBZ P md ops Q S ds fuel l a w := norm_ (e.trans ha) h
end
/-! ### A test of the plain function, both ways (slim5.py). -/
theorem ifl {α : Type} {p : Prop} {i : Decidable p} {a b : Option α} {r : Option α} (h : (if p then a else b) = r) : (decide p = true ∧ a = r) ∨ (decide p = false ∧ b = r) := by
  by_cases c : p
  · rw [if_pos c] at h; exact .inl ⟨decide_eq_true c, h⟩
  · rw [if_neg c] at h; exact .inr ⟨decide_eq_false c, h⟩
theorem ifg {α : Type} {x y : Int} {a b : Option α} {r : Option α} (h : (if x > y then a else b) = r) : (decide (y < x) = true ∧ a = r) ∨ (decide (y < x) = false ∧ b = r) := ifl h
theorem ifh {α : Type} {x y : Int} {a b : Option α} {r : Option α} (h : (if x ≥ y then a else b) = r) : (decide (y ≤ x) = true ∧ a = r) ∨ (decide (y ≤ x) = false ∧ b = r) := ifl h
theorem ife {α : Type} {x y : Int} {a b : Option α} {r : Option α} (h : (if x = y then a else b) = r) : ((x == y) = true ∧ (x != y) = false ∧ a = r) ∨ ((x == y) = false ∧ (x != y) = true ∧ b = r) := by
  by_cases c : x = y
  · rw [if_pos c] at h; exact .inl ⟨beq_iff_eq.mpr c, bne_eq_false_iff_eq.mpr c, h⟩
  · rw [if_neg c] at h; exact .inr ⟨beq_eq_false_iff_ne.mpr c, bne_iff_ne.mpr c, h⟩
/-! ### Blocks that stay (slim5.py). -/
theorem bgr {w w0 w1 : World} {g : Nat} {o : Obj} {row : Option Nat} (h : Aside0 (w0.heap[g]? = some o)) (hg : w.grownBy w1 row) (hne : some g ≠ row) (hq : w0.heap[g]? = some o → w.heap[g]? = some o := by intro h_; (with_reducible repeat (first | refine qBK ?_ _ | refine qBM ?_ | refine qBL ?_ _)); exact h_) : Aside0 (w1.heap[g]? = some o) := ⟨blk_grown (hq h.out) hg hne⟩
theorem bgx {w w0 w1 : World} {g : Nat} {o : Obj} {row : Option Nat} (h : Aside0 (w0.heap[g]? = some o)) (hq : w0.heap[g]? = some o → w.heap[g]? = some o) (hg : w.grownBy w1 row) (hne : some g ≠ row) : Aside0 (w1.heap[g]? = some o) := ⟨blk_grown (hq h.out) hg hne⟩
theorem bbx {w w0 w1 : World} {g : Nat} {o : Obj} (h : Aside0 (w0.heap[g]? = some o)) (hq : w0.heap[g]? = some o → w.heap[g]? = some o) (hb : Below w.heap.size w w1) : Aside0 (w1.heap[g]? = some o) := ⟨qCF (hq h.out) hb⟩
theorem ifd {α : Type} {c : Prop} {i : Decidable c} {a : Option α} {r : α} (h : (if c then a else none) = some r) : decide c = true ∧ a = some r := ⟨decide_eq_true (ifp h).1, (ifp h).2⟩
theorem vmo {α : Type} {d : Kd α} {e : TypeId} {w w1 : World} {base : Nat} {ok ok' : Nat → Prop} {v : Value} {xs : List α} (h : Kd.V d e w base ok v xs) (hm : ∀ k, ok k → ok' k) (hq : Kd.V d e w base ok' v xs → Kd.V d e w1 base ok' v xs := by intro h_; (with_reducible repeat (first | apply Kd.V_alloc | apply Kd.V_drewN | apply Kd.V_drew)); exact h_) : Kd.V d e w1 base ok' v xs := hq (Kd.V_mono h hm)
theorem nmo {α : Type} {d : Kd α} {e : TypeId} {w w1 : World} {base : Nat} {ok ok' : Nat → Prop} {v : Value} {xs : List α} (h : Kd.N d e w base ok v xs) (hm : ∀ k, ok k → ok' k) (hq : Kd.N d e w base ok' v xs → Kd.N d e w1 base ok' v xs := by intro h_; (with_reducible repeat (first | apply Kd.N_alloc | apply Kd.N_drewN | apply Kd.N_drew)); exact h_) : Kd.N d e w1 base ok' v xs := hq (Kd.N_mono h hm)
theorem rmo {α : Type} {d : Kd α} {e : TypeId} {w w1 : World} {base : Nat} {ok ok' : Nat → Prop} {v : Value} {xs : List α} (h : d.R e w base ok v xs) (hm : ∀ k, ok k → ok' k) (hq : d.R e w base ok' v xs → d.R e w1 base ok' v xs := by intro h_; (with_reducible repeat (first | apply Kd.R_alloc | apply Kd.R_drewN | apply Kd.R_drew)); exact h_) : d.R e w1 base ok' v xs := hq (Kd.R_mono h hm)
end Go.Proofs.Ytaoogghpadifiaa.P
