/- Reachability: the search over a stack. -/
import Derived.Test.YtcljocmblplhcaaPx13
import Derived.Test.YtcljocmblplhcaaPx20
import Derived.Test.YtcljocmblplhcaaSpecA
namespace Go.Proofs.Ytcljocmblplhcaa.Pl
open Go.RowKit Go.Proofs.Ytcljocmblplhcaa.P Go.Proofs.YtcljocmblplhcaaW.PrintWords Go.Proofs.YtcljocmblplhcaaW.PrintMore
theorem cnt_set' {α : Type} (p : α → Bool) : ∀ (l : List α) (i : Nat) (x d : α), i < l.length → (l.set i x).countP p + (if p (l.getD i d) then 1 else 0) = l.countP p + (if p x then 1 else 0)
  | [], i, x, d, h => absurd h (by simp)
  | a :: l, 0, x, d, h => by simp [List.countP_cons]; omega
  | a :: l, i + 1, x, d, h => by
    have := cnt_set' p l i x d (by simpa using h)
    simp only [List.set_cons_succ, List.countP_cons, List.getD_cons_succ]
    omega
section
variable {g : List (List Int)}
/-- Reached from one of the first i numbers of the list. -/
def From (g : List (List Int)) (xs : List Int) (i v : Nat) : Prop := ∃ j s : Nat, j < i ∧ rd xs (j : Int) = (s : Int) ∧ R g s v
def IsReach (g : List (List Int)) (xs : List Int) (out : List Bool) : Prop := out.length = g.length ∧ ∀ v, v < g.length → (out.getD v false = true ↔ From g xs xs.length v)
theorem IsReach.uniq {xs : List Int} {a b : List Bool} (h : IsReach g xs a) (k : IsReach g xs b) : a = b := by
  refine ext_rdOf false (h.1.trans k.1.symm) (fun i hi => ?_)
  rw [rdOf_nat, rdOf_nat]
  have hi' : i < g.length := by rw [← h.1]; exact hi
  exact Bool.eq_iff_iff.2 ((h.2 i hi').trans (k.2 i hi').symm)
/-! ### the search over a stack -/
def tr (b : Bool) : Bool := !b
/-- S: what may be marked; pend: the vertex whose list is gone through. -/
structure RC (g : List (List Int)) (S : Nat → Prop) (pend : Nat → Prop) (M : Nat) (out : List Bool) (todo : List Int) : Prop where
  len : out.length = g.length
  tin : ∀ a ∈ todo, ∃ x : Nat, a = (x : Int) ∧ x < g.length ∧ out.getD x false = true
  sound : ∀ y, y < g.length → out.getD y false = true → S y
  closed : ∀ y, y < g.length → out.getD y false = true → (y : Int) ∈ todo ∨ pend y ∨ ∀ z, Ed g y z → out.getD z false = true
  size : 2 * out.countP tr + todo.length ≤ M
theorem visit_go {S pend : Nat → Prop} {M : Nat} {out : List Bool} {todo : List Int} (h : RC g S pend M out todo) (hM : M ≤ 100000) (w : Int) (hw : ∀ x : Nat, w = (x : Int) → x < g.length → S x) :
    ∃ p : List Bool × List Int, visitM g out todo w = some p ∧ RC g S pend M p.1 p.2 ∧ (∀ x : Nat, w = (x : Int) → x < g.length → p.1.getD x false = true) ∧ (∀ y, out.getD y false = true → p.1.getD y false = true) := by
  obtain ⟨len, tin, sound, closed, size⟩ := h
  by_cases c : 0 ≤ w ∧ w < (g.length : Int)
  · obtain ⟨c0, c1⟩ := c
    obtain ⟨x, rfl⟩ : ∃ x : Nat, w = (x : Int) := ⟨w.toNat, by omega⟩
    have hx : x < g.length := by omega
    by_cases d : out.getD x false = true
    · refine ⟨(out, todo), ?_, ⟨len, tin, sound, closed, size⟩, fun y hy _ => by rw [show y = x by omega]; exact d, fun y h => h⟩
      unfold visitM
      rw [if_pos c0, if_pos c1, rdOf_nat, if_pos d]
    · have d' : out.getD x false = false := by simpa using d
      have hg : ∀ y, (out.set x true).getD y false = if y = x then true else out.getD y false := fun y => getD_set _ _ _ _ _ (by omega)
      have hc : (out.set x true).countP tr + 1 = out.countP tr := by
        have := cnt_set' tr out x true false (by omega)
        rw [d'] at this
        simp [tr] at this
        exact this
      have hmono : ∀ y, out.getD y false = true → (out.set x true).getD y false = true := fun y h => by
        rw [hg]; split
        · rfl
        · exact h
      refine ⟨(out.set x true, todo ++ [(x : Int)]), ?_, ⟨by rw [List.length_set]; exact len, fun a ha => ?_, fun y hy h => ?_, fun y hy h => ?_, ?_⟩, fun y hy _ => ?_, hmono⟩
      · unfold visitM
        rw [if_pos c0, if_pos c1, rdOf_nat, if_neg d, if_pos (by omega), Int.toNat_natCast]
      · rcases List.mem_append.1 ha with ha | ha
        · obtain ⟨y, h1, h2, h3⟩ := tin a ha
          exact ⟨y, h1, h2, hmono y h3⟩
        · simp at ha
          exact ⟨x, ha, hx, by rw [hg, if_pos rfl]⟩
      · rw [hg] at h
        by_cases e : y = x
        · subst e; exact hw y rfl hy
        · rw [if_neg e] at h; exact sound y hy h
      · by_cases e : y = x
        · exact .inl (by rw [e]; simp)
        · rw [hg, if_neg e] at h
          rcases closed y hy h with h | h | h
          · exact .inl (List.mem_append.2 (.inl h))
          · exact .inr (.inl h)
          · exact .inr (.inr fun z hz => hmono z (h z hz))
      · rw [List.length_append]
        simp
        omega
      · have : y = x := by omega
        rw [this, hg, if_pos rfl]
  · refine ⟨(out, todo), ?_, ⟨len, tin, sound, closed, size⟩, fun y hy h => absurd (by omega) c, fun y h => h⟩
    unfold visitM
    by_cases c0 : 0 ≤ w
    · rw [if_pos c0, if_neg (fun c1 => c ⟨c0, c1⟩)]
    · rw [if_neg c0]
theorem reach_loop (hf : Few g) {S : Nat → Prop} (hS : ∀ u v, S u → Ed g u v → S v) : ∀ (M : Nat) (out : List Bool) (todo : List Int), RC g S (fun _ => False) M out todo → M ≤ 100000 →
    ∃ o, Ev (fun k => digraph_Reach.l1 k g out todo) o ∧ RC g S (fun _ => False) M o [] ∧ ∀ y, out.getD y false = true → o.getD y false = true := by
  intro M
  induction M using Nat.strongRecOn with
  | _ M ih =>
  intro out todo h hM
  by_cases c : 0 < (todo.length : Int)
  · obtain ⟨v, hv, hvg, hvo⟩ := h.tin _ (rd_mem (xs := todo) (i := (todo.length : Int) - 1) (by omega) (by omega))
    have hsz := h.size
    have h20 := hf.2 v hvg
    have hdrop : todo = todo.take (todo.length - 1) ++ [(v : Int)] := by
      have e1 := List.take_append_drop (todo.length - 1) todo
      have e2 : todo.drop (todo.length - 1) = [(v : Int)] := by
        rw [List.drop_eq_getElem_cons (by omega), List.drop_eq_nil_of_le (by omega)]
        congr 1
        rw [← hv, show (todo.length : Int) - 1 = ((todo.length - 1 : Nat) : Int) by omega, rd_nat, List.getD_eq_getElem?_getD, List.getElem?_eq_getElem (by omega)]
        rfl
      rw [e2] at e1
      exact e1.symm
    obtain ⟨p, ⟨hp, hpm, hprog⟩, hk⟩ := Ev_for (l := fun k (p : List Bool × List Int) i => digraph_Reach.l2 k g p.1 p.2 (g.getD v []) i) (n := (g.getD v []).length)
      (inv := fun i p => RC g S (fun y => y = v) (M - 1) p.1 p.2 ∧ (∀ y, out.getD y false = true → p.1.getD y false = true) ∧ ∀ j, j < i → ∀ x : Nat, rd (g.getD v []) (j : Int) = (x : Int) → x < g.length → p.1.getD x false = true)
      (fun i p hi ⟨hp, hpm, hprog⟩ => by
        obtain ⟨q, hq1, hq2, hq3, hq4⟩ := visit_go hp (by omega) (rd (g.getD v []) (i : Int)) (fun x hx hxg => hS v x (h.sound v hvg hvo) ⟨hvg, hxg, by rw [← hx]; exact rd_mem (by omega) (by omega)⟩)
        refine ⟨q, ⟨hq2, fun y hy => hq4 y (hpm y hy), fun j hj x hx hxg => ?_⟩, fun r h => Ev.step (f := fun k => digraph_Reach.l2 k g q.1 q.2 (g.getD v []) ((i + 1 : Nat) : Int)) (fun k => ?_) h⟩
        · by_cases e : j = i
          · subst e; exact hq3 x hx hxg
          · exact hq4 x (hprog j (by omega) x hx hxg)
        · simp only [digraph_Reach.l2]
          rw [if_pos (by omega), if_pos (by omega), hq1, wrap_up hi (by omega)]
          rfl)
      (Nat.zero_le _) (s := (out, todo.take (todo.length - 1))) ⟨⟨h.len, fun a ha => h.tin a (List.mem_of_mem_take ha), h.sound, fun y hy hyo => by
          rcases h.closed y hy hyo with h1 | h1 | h1
          · rw [hdrop] at h1
            rcases List.mem_append.1 h1 with h1 | h1
            · exact .inl h1
            · simp at h1
              exact .inr (.inl (by omega))
          · exact h1.elim
          · exact .inr (.inr h1), by
            show 2 * out.countP tr + (todo.take (todo.length - 1)).length ≤ M - 1
            rw [List.length_take]; omega⟩, fun y hy => hy, fun j hj => absurd hj (Nat.not_lt_zero _)⟩
    obtain ⟨o2, t2⟩ := p
    have hp' : RC g S (fun _ => False) (M - 1) o2 t2 := ⟨hp.len, hp.tin, hp.sound, fun y hy hyo => by
      rcases hp.closed y hy hyo with h1 | h1 | h1
      · exact .inl h1
      · subst h1
        refine .inr (.inr fun z hz => ?_)
        obtain ⟨j, hj, e⟩ := mem_rd hz.2.2
        exact hprog j hj z e hz.2.1
      · exact .inr (.inr h1), hp.size⟩
    obtain ⟨o, ho1, ho2, ho3⟩ := ih (M - 1) (by omega) o2 t2 hp' (by omega)
    refine ⟨o, Ev.step (f := fun k => digraph_Reach.l2 k g out (todo.take (todo.length - 1)) (g.getD v []) 0) (fun k => ?_) (hk o (Ev.step (fun k => ?_) ho1)), ⟨ho2.len, ho2.tin, ho2.sound, ho2.closed, by have := ho2.size; omega⟩, fun y hy => ho3 y (hpm y hy)⟩
    · simp only [digraph_Reach.l1]
      rw [if_pos c, hv, if_pos (by omega), if_pos (by omega), rdL]
    · simp only [digraph_Reach.l2]
      rw [if_neg (by omega)]
  · have e : todo = [] := List.eq_nil_of_length_eq_zero (by omega)
    subst e
    exact ⟨out, Ev.one (fun k => by simp only [digraph_Reach.l1]; rw [if_neg c]), h, fun y hy => hy⟩
theorem reach_ev (hf : Few g) (xs : List Int) (hx : xs.length ≤ 1000) : ∃ out, Ev (fun k => digraph_Reach.f k g xs) out ∧ IsReach g xs out := by
  have g12 := hf.1
  have hS : ∀ u v, From g xs xs.length u → Ed g u v → From g xs xs.length v := fun u v ⟨j, s, h1, h2, h3⟩ he => ⟨j, s, h1, h2, h3.trans (R.edge he)⟩
  obtain ⟨p, ⟨hp, hprog⟩, hk⟩ := Ev_for (l := fun k (p : List Bool × List Int) i => digraph_Reach.l0 k g xs p.1 p.2 i) (n := xs.length)
    (inv := fun i p => RC g (From g xs xs.length) (fun _ => False) 1000 p.1 p.2 ∧ ∀ j, j < i → ∀ x : Nat, rd xs (j : Int) = (x : Int) → x < g.length → p.1.getD x false = true)
    (fun i p hi ⟨hp, hprog⟩ => by
      obtain ⟨q, hq1, hq2, hq3, hq4⟩ := visit_go hp (by omega) (rd xs (i : Int)) (fun x hx hxg => ⟨i, x, hi, hx, R.refl hxg⟩)
      refine ⟨q, ⟨hq2, fun j hj x hx hxg => ?_⟩, fun r h => Ev.step (f := fun k => digraph_Reach.l0 k g xs q.1 q.2 ((i + 1 : Nat) : Int)) (fun k => ?_) h⟩
      · by_cases e : j = i
        · subst e; exact hq3 x hx hxg
        · exact hq4 x (hprog j (by omega) x hx hxg)
      · simp only [digraph_Reach.l0]
        rw [if_pos (by omega), if_pos (by omega), hq1, wrap_up hi (by omega)]
        rfl)
    (Nat.zero_le _) (s := (List.replicate g.length false, [])) ⟨⟨by simp, fun a ha => (by cases ha), fun y hy h => by
        simp [List.getD_eq_getElem?_getD, hy] at h, fun y hy h => by
        simp [List.getD_eq_getElem?_getD, hy] at h, by
        have : (List.replicate g.length false).countP tr ≤ (List.replicate g.length false).length := List.countP_le_length
        simp at this ⊢
        omega⟩, fun j hj => absurd hj (Nat.not_lt_zero _)⟩
  obtain ⟨o1, t1⟩ := p
  obtain ⟨o, ho1, ho2, ho3⟩ := reach_loop hf hS 1000 o1 t1 hp (by omega)
  refine ⟨o, ?_, ho2.len, fun v hv => ⟨ho2.sound v hv, fun ⟨j, s, h1, h2, h3⟩ => ?_⟩⟩
  · refine Ev.congr (f := fun k => digraph_Reach.l0 k g xs (List.replicate g.length false) [] 0) (fun k => ?_) (hk o (Ev.step (fun k => ?_) ho1))
    · unfold digraph_Reach.f
      rw [if_pos (by omega)]
    · simp only [digraph_Reach.l0]
      rw [if_neg (by omega)]
  · have hs := ho3 s (hprog j h1 s h2 h3.lt.1)
    exact R.closed (p := fun y => o.getD y false = true) (fun a b ha hab => by
      rcases ho2.closed a hab.1 ha with h | h | h
      · cases h
      · exact h.elim
      · exact h b hab) h3 hs

/-! ### cycles -/
open Classical in
theorem cyclic_ev (hf : Few g) (a : Int) : Ev (fun k => digraph_Cyclic.f k g a) (decide (∃ v : Nat, a = (v : Int) ∧ Rp g v v)) := by
  have g12 := hf.1
  by_cases c : 0 ≤ a ∧ a < (g.length : Int)
  · obtain ⟨c0, c1⟩ := c
    obtain ⟨v, rfl⟩ : ∃ v : Nat, a = (v : Int) := ⟨a.toNat, by omega⟩
    have hv : v < g.length := by omega
    have h20 := hf.2 v hv
    have hin : digraph_inside.f g (v : Int) = some true := by unfold digraph_inside.f; rw [if_pos c0, decide_eq_true c1]
    have e : decide (∃ x : Nat, (v : Int) = (x : Int) ∧ Rp g x x) = decide (Rp g v v) := by
      rw [decide_eq_decide]
      exact ⟨fun ⟨x, h1, h2⟩ => by rw [show v = x by omega]; exact h2, fun h => ⟨v, rfl, h⟩⟩
    rw [e]
    obtain ⟨o, ho, hl, hr⟩ := reach_ev hf (g.getD v []) (by omega)
    have e2 : o.getD v false = decide (Rp g v v) := by
      rw [Bool.eq_iff_iff, hr v hv, decide_eq_true_eq, Rp_iff]
      constructor
      · rintro ⟨j, s, h1, h2, h3⟩
        exact ⟨s, ⟨hv, h3.lt.1, by rw [← h2]; exact rd_mem (by omega) (by omega)⟩, h3⟩
      · rintro ⟨w, h1, h2⟩
        obtain ⟨j, hj, e⟩ := mem_rd h1.2.2
        exact ⟨j, w, hj, e, h2⟩
    unfold digraph_Cyclic.f
    rw [hin]
    simp only [Option.bind_some, ↓reduceIte]
    refine Ev.congr (f := fun k => (digraph_Reach.f k g (g.getD v [])).bind fun t454 => (if (v : Int) < (t454.length : Int) then (some (rdOf false t454 (v : Int))) else (none))) (fun k => by rw [if_pos c0, if_pos c1, rdL]) (Ev.bind ho ?_)
    refine Ev.congr (f := fun _ => some (decide (Rp g v v))) (fun k => ?_) (Ev.some _)
    rw [if_pos (by omega), rdOf_nat, e2]
  · have e : decide (∃ x : Nat, a = (x : Int) ∧ Rp g x x) = false := decide_eq_false (fun ⟨x, h1, h2⟩ => c (by have := h2.toR.lt.1; omega))
    rw [e]
    refine Ev.congr (f := fun _ => some false) (fun k => ?_) (Ev.some _)
    unfold digraph_Cyclic.f digraph_inside.f
    by_cases c0 : a ≥ 0
    · rw [if_pos c0, decide_eq_false (fun c1 => c ⟨c0, c1⟩)]; rfl
    · rw [if_neg c0]; rfl
end
end Go.Proofs.Ytcljocmblplhcaa.Pl
