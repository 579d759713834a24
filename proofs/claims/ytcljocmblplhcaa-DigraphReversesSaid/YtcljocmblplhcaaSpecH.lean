/- Topological order: both functions list the least vertex that is ready. -/
import Derived.Test.YtcljocmblplhcaaPx15
import Derived.Test.YtcljocmblplhcaaSpecC
namespace Go.Proofs.Ytcljocmblplhcaa.Pl
open Go.RowKit Go.Proofs.Ytcljocmblplhcaa.P Go.Proofs.YtcljocmblplhcaaW.PrintWords Go.Proofs.YtcljocmblplhcaaW.PrintMore

/-- Not listed, and all that leads to it is. -/
def Ready (g : List (List Int)) (out : List Int) (v : Nat) : Prop := v < g.length ∧ (v : Int) ∉ out ∧ ∀ u, Ed g u v → (u : Int) ∈ out
inductive Tp (g : List (List Int)) : List Int → List Int × Bool → Prop
  | done {out : List Int} : out.length = g.length → Tp g out (out, true)
  | stuck {out : List Int} : out.length < g.length → (∀ v, ¬ Ready g out v) → Tp g out ([], false)
  | next {out : List Int} {v : Nat} {r : List Int × Bool} : out.length < g.length → Ready g out v → (∀ w, w < v → ¬ Ready g out w) → Tp g (out ++ [(v : Int)]) r → Tp g out r
section
variable {g : List (List Int)}
theorem Tp.uniq {out : List Int} {a b : List Int × Bool} (h : Tp g out a) (k : Tp g out b) : a = b := by
  induction h generalizing b with
  | done h1 =>
    cases k with
    | done _ => rfl
    | stuck h2 _ => omega
    | next h2 _ _ _ => omega
  | stuck h1 h2 =>
    cases k with
    | done h3 => omega
    | stuck _ _ => rfl
    | next _ h3 _ _ => exact absurd h3 (h2 _)
  | @next out v r h1 h2 h3 _ ih =>
    cases k with
    | done h4 => omega
    | stuck _ h4 => exact absurd h2 (h4 _)
    | @next _ w _ _ h5 h6 h7 =>
      have e : w = v := by
        rcases Nat.lt_trichotomy w v with h | h | h
        · exact absurd h5 (h3 _ h)
        · exact h
        · exact absurd h2 (h6 _ h)
      subst e
      exact ih h7
theorem Tp.len {out : List Int} {r : List Int × Bool} (h : Tp g out r) : r.1.length ≤ g.length := by
  induction h with
  | done h => exact Nat.le_of_eq h
  | stuck _ _ => exact Nat.zero_le _
  | next _ _ _ _ ih => exact ih
theorem preds_nodup (g : List (List Int)) (v : Nat) : ∀ u, (preds g v u).Nodup
  | 0 => by simp [preds]
  | u + 1 => by
    rw [preds_succ]
    split
    · refine List.nodup_append.2 ⟨preds_nodup g v u, by simp, fun a ha b hb e => ?_⟩
      obtain ⟨y, hy, rfl, _⟩ := preds_mem.1 ha
      simp at hb
      omega
    · rw [List.append_nil]; exact preds_nodup g v u
theorem nodup_take {l : List Int} (h : l.Nodup) {i : Nat} (hi : i < l.length) : rd l (i : Int) ∉ l.take i := fun hm => by
  obtain ⟨j, hj, e⟩ := List.getElem_of_mem hm
  have hj2 : j < i := by rw [List.length_take] at hj; omega
  rw [List.getElem_take, rd_nat, List.getD_eq_getElem?_getD, List.getElem?_eq_getElem hi] at e
  exact (List.pairwise_iff_getElem.1 h) j i (by omega) hi hj2 e

/-- How many that lead to w are not listed. -/
def cnt (g : List (List Int)) (out : List Int) (w : Nat) : Nat := (preds g w g.length).countP (fun x => decide (x ∉ out))
theorem cnt_put (out : List Int) (v : Int) (hv : v ∉ out) : ∀ l : List Int, l.Nodup → l.countP (fun x => decide (x ∉ out ++ [v])) + (if v ∈ l then 1 else 0) = l.countP (fun x => decide (x ∉ out))
  | [], _ => by simp
  | a :: l, h => by
    obtain ⟨h1, h2⟩ := List.nodup_cons.1 h
    have ih := cnt_put out v hv l h2
    rw [List.countP_cons, List.countP_cons]
    by_cases e : a = v
    · subst e
      rw [if_neg h1] at ih
      rw [if_pos (List.mem_cons_self ..), if_neg (show ¬ decide (a ∉ out ++ [a]) = true by simp), if_pos (show decide (a ∉ out) = true by simpa using hv)]
      omega
    · have e1 : (v ∈ a :: l) ↔ v ∈ l := by rw [List.mem_cons]; exact ⟨fun h => h.elim (fun h => absurd h.symm e) id, .inr⟩
      have e2 : decide (a ∉ out ++ [v]) = decide (a ∉ out) := by
        rw [decide_eq_decide, List.mem_append]
        simp [e]
      rw [e2]
      simp only [e1]
      omega
theorem cnt_next (out : List Int) (v w : Nat) (hvg : v < g.length) (hv : (v : Int) ∉ out) : (cnt g (out ++ [(v : Int)]) w : Int) = (cnt g out w : Int) - (if (w : Int) ∈ g.getD v [] then 1 else 0) := by
  have h := cnt_put out (v : Int) hv _ (preds_nodup g w g.length)
  have e : ((v : Int) ∈ preds g w g.length) ↔ (w : Int) ∈ g.getD v [] := by
    rw [preds_mem]
    constructor
    · rintro ⟨y, h1, h2, h3⟩
      have : y = v := by omega
      subst this
      exact h3
    · intro h
      exact ⟨v, hvg, rfl, h⟩
  simp only [e] at h
  unfold cnt
  by_cases c : (w : Int) ∈ g.getD v []
  · rw [if_pos c] at h ⊢; omega
  · rw [if_neg c] at h ⊢; omega
theorem cnt_zero (out : List Int) (v : Nat) (hv : v < g.length) : cnt g out v = 0 ↔ ∀ u, Ed g u v → (u : Int) ∈ out := by
  unfold cnt
  rw [List.countP_eq_zero]
  constructor
  · intro h u hu
    have := h (u : Int) (preds_mem.2 ⟨u, hu.1, rfl, hu.2.2⟩)
    simpa using this
  · intro h x hx
    obtain ⟨y, h1, rfl, h3⟩ := preds_mem.1 hx
    simpa using h y ⟨h1, hv, h3⟩
theorem cnt_le (out : List Int) (w : Nat) : cnt g out w ≤ g.length := Nat.le_trans List.countP_le_length (preds_len _ _ _)
theorem cnt_nil (w : Nat) : cnt g [] w = (preds g w g.length).length := by
  unfold cnt
  rw [List.countP_eq_length]
  intro a _
  simp

structure TopS (g : List (List Int)) (out : List Int) (done : List Bool) : Prop where
  len : done.length = g.length
  is : ∀ v, v < g.length → (done.getD v false = true ↔ (v : Int) ∈ out)
theorem TopS.put {out : List Int} {done : List Bool} (h : TopS g out done) {v : Nat} (hv : v < g.length) : TopS g (out ++ [(v : Int)]) (done.set v true) := ⟨by rw [List.length_set]; exact h.len, fun w hw => by
  have := h.len
  rw [getD_set _ _ _ _ _ (by omega), List.mem_append]
  by_cases e : w = v
  · rw [if_pos e]; subst e; simp
  · rw [if_neg e, h.is w hw]
    have e2 : (w : Int) ∉ [(v : Int)] := by simp; omega
    exact ⟨.inl, fun h => h.elim id (fun h => absurd h e2)⟩⟩
/-! ### the program's -/
theorem topo_go (hf : Few g) : ∀ (d : Nat) (out : List Int) (op : List Int) (done : List Bool), g.length - out.length = d → out.length ≤ g.length → TopS g out done → op.length = g.length → (∀ w, w < g.length → rd op (w : Int) = (cnt g out w : Int)) → ∃ r, Tp g out r ∧ Ev (fun k => digraph_Topo.l1 k g op done (rev (rev g)) out) r := by
  intro d
  have g12 := hf.1
  have hrl : (rev (rev g)).length = g.length := by rw [rev_len, rev_len]
  induction d with
  | zero =>
    intro out op done hd hle hs ho hc
    exact ⟨_, .done (by omega), Ev.one (fun k => by simp only [digraph_Topo.l1]; rw [if_neg (by omega)])⟩
  | succ d ih =>
    intro out op done hd hle hs ho hc
    have hl := hs.len
    have go : ∀ (v : Nat), v < g.length → ¬ Ready g out v → ∀ r, Ev (fun k => digraph_Topo.l2 k g op done (rev (rev g)) out ((v + 1 : Nat) : Int)) r → Ev (fun k => digraph_Topo.l2 k g op done (rev (rev g)) out (v : Int)) r := fun v hv hr r h => Ev.step (fun k => by
      simp only [digraph_Topo.l2]
      rw [if_pos (by omega), if_pos (by omega), if_pos (by omega), rdOf_nat]
      by_cases e : done.getD v false = true
      · rw [if_pos e, wrap_up hv (by omega)]
      · rw [if_neg e, if_pos (by omega), hc v hv, if_pos (by
          have : cnt g out v ≠ 0 := fun h0 => hr ⟨hv, fun hm => e ((hs.is v hv).2 hm), (cnt_zero out v hv).1 h0⟩
          omega), wrap_up hv (by omega)]) h
    have start : ∀ r, Ev (fun k => digraph_Topo.l2 k g op done (rev (rev g)) out 0) r → Ev (fun k => digraph_Topo.l1 k g op done (rev (rev g)) out) r := fun r h => Ev.step (fun k => by simp only [digraph_Topo.l1]; rw [if_pos (by omega)]) h
    rcases least_or (Ready g out) g.length with ⟨v, hv, h1, h2⟩ | hno
    · obtain ⟨_, _, hk⟩ := Ev_for (l := fun k (_ : Unit) i => digraph_Topo.l2 k g op done (rev (rev g)) out i) (n := v) (inv := fun _ _ => True) (fun i _ hi _ => ⟨(), trivial, go i (by omega) (h2 i hi)⟩) (Nat.zero_le _) (s := ()) trivial
      obtain ⟨row, hrow⟩ : ∃ row, row = (rev (rev g)).getD v [] := ⟨_, rfl⟩
      have hrow2 : row = preds (rev g) v g.length := by rw [hrow, rev_row (rev g) v (by rw [rev_len]; exact hv), rev_len]
      have hin : ∀ w : Nat, w < g.length → ((w : Int) ∈ row ↔ (w : Int) ∈ g.getD v []) := fun w hw => by
        rw [hrow2, preds_mem]
        constructor
        · rintro ⟨y, y1, y2, y3⟩
          have : y = w := by omega
          subst this
          exact (rev_ed.1 ⟨by rw [rev_len]; exact y1, by rw [rev_len]; exact hv, y3⟩).2.2
        · intro h
          exact ⟨w, hw, rfl, (rev_ed.2 ⟨hv, hw, h⟩).2.2⟩
      have hrl2 : row.length ≤ g.length := by rw [hrow2]; exact preds_len _ _ _
      obtain ⟨op', ⟨ho', hc'⟩, hk2⟩ := Ev_for (l := fun k (op : List Int) i => digraph_Topo.l3 k g op (done.set v true) (rev (rev g)) (out ++ [(v : Int)]) row (row.length : Int) i) (n := row.length) (inv := fun i op => op.length = g.length ∧ ∀ w, w < g.length → rd op (w : Int) = (cnt g out w : Int) - (if (w : Int) ∈ row.take i then 1 else 0))
        (fun i op hi ⟨ho, hc⟩ => by
          obtain ⟨w, hw, hwe, _⟩ : ∃ w : Nat, w < g.length ∧ rd row (i : Int) = (w : Int) ∧ (v : Int) ∈ (rev g).getD w [] := preds_mem.1 (hrow2 ▸ rd_mem (xs := row) (i := (i : Int)) (by omega) (by omega))
          have hnt : (w : Int) ∉ row.take i := by rw [← hwe]; exact nodup_take (by rw [hrow2]; exact preds_nodup _ _ _) hi
          have hcw := hc w hw
          rw [if_neg hnt] at hcw
          have hcl := cnt_le (g := g) out w
          refine ⟨op.set w ((cnt g out w : Int) - 1), ⟨by rw [List.length_set]; exact ho, fun y hy => ?_⟩, fun r h => Ev.step (fun k => ?_) h⟩
          · have := rd_set op (w : Int) (y : Int) ((cnt g out w : Int) - 1) (by omega) (by omega) (by omega)
            rw [Int.toNat_natCast] at this
            rw [this]
            by_cases e : y = w
            · subst e
              rw [if_pos rfl, if_pos ((take_succ_mem hi).2 (.inr hwe.symm))]
            · rw [if_neg (by omega), hc y hy]
              congr 1
              have e : ((y : Int) ∈ row.take (i + 1)) ↔ ((y : Int) ∈ row.take i) := by
                rw [take_succ_mem hi, hwe]
                exact ⟨fun h => h.elim id (fun h => by omega), .inl⟩
              simp only [e]
          · simp only [digraph_Topo.l3]
            rw [if_pos (by omega), if_pos (by omega), if_pos (by omega), hwe, if_pos (by omega), if_pos (by omega), hcw, wrap_up hi (by omega), Int.toNat_natCast, wrap_ok (by omega) (by omega), Int.sub_zero])
        (Nat.zero_le _) (s := op) ⟨ho, fun w hw => by rw [hc w hw]; simp⟩
      obtain ⟨r, hr1, hr2⟩ := ih (out ++ [(v : Int)]) op' (done.set v true) (by simp; omega) (by simp; omega) (hs.put hv) ho' (fun w hw => by
        rw [hc' w hw, List.take_length, cnt_next out v w hv h1.2.1]
        congr 1
        simp only [hin w hw])
      refine ⟨r, .next (by omega) h1 h2 hr1, start r (hk r (Ev.step (f := fun k => digraph_Topo.j3 k g op done (rev (rev g)) out (v : Int)) (fun k => ?_) (Ev.step (f := fun k => digraph_Topo.l3 k g op (done.set v true) (rev (rev g)) (out ++ [(v : Int)]) row (row.length : Int) 0) (fun k => ?_) (hk2 r (Ev.step (fun k => ?_) hr2)))))⟩
      · simp only [digraph_Topo.l2]
        rw [if_pos (by omega), if_pos (by omega), if_pos (by omega), rdOf_nat, if_neg (fun e => h1.2.1 ((hs.is v hv).1 e)), if_pos (by omega), hc v hv, (cnt_zero out v hv).2 h1.2.2, if_neg (by omega)]
      · simp only [digraph_Topo.j3]
        rw [if_neg (by omega), if_pos (by omega), if_pos (by omega), if_pos (by omega), if_pos (by omega), rdL, ← hrow, Int.toNat_natCast]
      · simp only [digraph_Topo.l3]
        rw [if_neg (by omega)]
    · obtain ⟨_, _, hk⟩ := Ev_for (l := fun k (_ : Unit) i => digraph_Topo.l2 k g op done (rev (rev g)) out i) (n := g.length) (inv := fun _ _ => True) (fun i _ hi _ => ⟨(), trivial, go i (by omega) (hno i hi)⟩) (Nat.zero_le _) (s := ()) trivial
      refine ⟨_, .stuck (by omega) (fun v hv => hno v hv.1 hv), start _ (hk _ (Ev.step (f := fun k => digraph_Topo.j3 k g op done (rev (rev g)) out (g.length : Int)) (fun k => ?_) (Ev.one (fun k => ?_))))⟩
      · simp only [digraph_Topo.l2]
        rw [if_neg (by omega)]
      · simp only [digraph_Topo.j3]
        rw [if_pos trivial]
theorem topo_ev (hf : Few g) : ∃ r, Ev (fun k => digraph_Topo.f k g) r ∧ Tp g [] r := by
  have g12 := hf.1
  obtain ⟨op, ⟨ho, hc⟩, hk⟩ := Ev_for (l := fun k (op : List Int) i => digraph_Topo.l0 k g (rev g) op (List.replicate g.length false) (g.length : Int) i) (n := g.length) (inv := fun i op => op.length = g.length ∧ ∀ w, w < i → rd op (w : Int) = (cnt g [] w : Int))
    (fun i op hi ⟨ho, hc⟩ => by
      refine ⟨op.set i ((preds g i g.length).length : Int), ⟨by rw [List.length_set]; exact ho, fun y hy => ?_⟩, fun r h => Ev.step (fun k => ?_) h⟩
      · have := rd_set op (i : Int) (y : Int) ((preds g i g.length).length : Int) (by omega) (by omega) (by omega)
        rw [Int.toNat_natCast] at this
        rw [this]
        by_cases e : y = i
        · subst e
          rw [if_pos rfl, cnt_nil]
        · rw [if_neg (by omega), hc y (by omega)]
      · simp only [digraph_Topo.l0]
        rw [if_pos (by omega), if_pos (by omega), if_pos (by rw [rev_len]; omega), if_pos (by omega), rdL, rev_row g i hi, wrap_up hi (by omega), Int.toNat_natCast])
    (Nat.zero_le _) (s := List.replicate g.length 0) ⟨by simp, fun w hw => absurd hw (Nat.not_lt_zero _)⟩
  obtain ⟨r, h1, h2⟩ := topo_go hf g.length [] op (List.replicate g.length false) (by simp) (by simp) ⟨by simp, fun v hv => by simp [List.getD_eq_getElem?_getD, hv]⟩ ho hc
  refine ⟨r, Ev.bind (reverse_ev g hf) (Ev.congr (f := fun k => digraph_Topo.l0 k g (rev g) (List.replicate g.length 0) (List.replicate g.length false) (g.length : Int) 0) (fun k => ?_) (hk r (Ev.step (f := fun k => (digraph_Reverse.f k (rev g)).bind fun t => digraph_Topo.l1 k g op (List.replicate g.length false) t []) (fun k => ?_) (Ev.bind (reverse_ev (rev g) (rev_few hf)) h2)))), h1⟩
  · rw [if_pos (by omega), if_pos (by omega), if_pos (by omega), Int.toNat_natCast]
  · simp only [digraph_Topo.l0]
    rw [if_neg (by omega)]
end
end Go.Proofs.Ytcljocmblplhcaa.Pl
