/- Reachability: the reference's table of walks, its lists, and the search over a stack. -/
import Derived.Test.YtcljocmblplhcaaPx5
import Derived.Test.YtcljocmblplhcaaPx19
import Derived.Test.YtcljocmblplhcaaPx19
import Derived.Test.YtcljocmblplhcaaPx13
import Derived.Test.YtcljocmblplhcaaPx20
import Derived.Test.YtcljocmblplhcaaPx18
import Derived.Test.YtcljocmblplhcaaSpecA
namespace Go.Proofs.Ytcljocmblplhcaa.Pl
open Go.RowKit Go.Proofs.Ytcljocmblplhcaa.P Go.Proofs.YtcljocmblplhcaaW.PrintWords Go.Proofs.YtcljocmblplhcaaW.PrintMore

/-! ### a table, read and written -/
def T (t : List (List Bool)) (a b : Nat) : Bool := (t.getD a []).getD b false
theorem T_set (t : List (List Bool)) (u v : Nat) (x : Bool) (hu : u < t.length) (hv : v < (t.getD u []).length) (a b : Nat) : T (t.set u ((t.getD u []).set v x)) a b = if a = u ∧ b = v then x else T t a b := by
  unfold T
  rw [getD_set _ _ _ _ _ hu]
  by_cases e : a = u
  · rw [if_pos e, getD_set _ _ _ _ _ hv]
    subst e
    by_cases e2 : b = v
    · rw [if_pos e2, if_pos ⟨rfl, e2⟩]
    · rw [if_neg e2, if_neg (fun h => e2 h.2)]
  · rw [if_neg e, if_neg (fun h => e h.1)]
theorem T_row (t : List (List Bool)) (u v : Nat) (x : Bool) (n : Nat) (hu : u < t.length) (h : ∀ a, a < n → (t.getD a []).length = n) (a : Nat) (ha : a < n) : ((t.set u ((t.getD u []).set v x)).getD a []).length = n := by
  rw [getD_set _ _ _ _ _ hu]
  by_cases e : a = u
  · rw [if_pos e, List.length_set]; subst e; exact h a ha
  · rw [if_neg e]; exact h a ha

theorem cnt_set' {α : Type} (p : α → Bool) : ∀ (l : List α) (i : Nat) (x d : α), i < l.length → (l.set i x).countP p + (if p (l.getD i d) then 1 else 0) = l.countP p + (if p x then 1 else 0)
  | [], i, x, d, h => absurd h (by simp)
  | a :: l, 0, x, d, h => by simp [List.countP_cons]; omega
  | a :: l, i + 1, x, d, h => by
    have := cnt_set' p l i x d (by simpa using h)
    simp only [List.set_cons_succ, List.countP_cons, List.getD_cons_succ]
    omega
section
variable {g : List (List Int)}
theorem Via.at {K u : Nat} (h : Via g (K + 1) u K) : Via g K u K := (Via.succ.1 h).elim id (fun h => h.1)
theorem Via.from {K v : Nat} (h : Via g (K + 1) K v) : Via g K K v := (Via.succ.1 h).elim id (fun h => h.2)

/-- In round K: rows below u are done, of row u the columns below v. -/
structure PT (g : List (List Int)) (K u v : Nat) (t : List (List Bool)) : Prop where
  len : t.length = g.length
  row : ∀ a, a < g.length → (t.getD a []).length = g.length
  low : ∀ a b, a < g.length → b < g.length → Via g K a b → T t a b = true
  up : ∀ a b, a < g.length → b < g.length → T t a b = true → Via g (K + 1) a b
  done : ∀ a b, a < g.length → b < g.length → (a < u ∨ (a = u ∧ b < v)) → Via g (K + 1) a b → T t a b = true

theorem PT.put {K u v : Nat} {t : List (List Bool)} (h : PT g K u v t) (hK : K < g.length) (hu : u < g.length) (hv : v < g.length) {x : Bool} (hx : x = (T t u v || (T t u K && T t K v))) :
    PT g K u (v + 1) (t.set u ((t.getD u []).set v x)) := by
  obtain ⟨len, row, low, up, done⟩ := h
  have hl := row u hu
  have hT := T_set t u v x (by omega) (by omega)
  have x1 : x = true → Via g (K + 1) u v := fun h => by
    rw [hx] at h
    rcases Bool.or_eq_true _ _ ▸ h with h | h
    · exact up u v hu hv h
    · rw [Bool.and_eq_true] at h
      exact Via.succ.2 (.inr ⟨(up u K hu hK h.1).at, (up K v hK hv h.2).from⟩)
  have x2 : Via g (K + 1) u v → x = true := fun h => by
    rw [hx]
    rcases Via.succ.1 h with h | ⟨h1, h2⟩
    · rw [low u v hu hv h]; rfl
    · rw [low u K hu hK h1, low K v hK hv h2]; simp
  refine ⟨by rw [List.length_set]; exact len, T_row t u v x g.length (by omega) row, fun a b ha hb h => ?_, fun a b ha hb h => ?_, fun a b ha hb hd h => ?_⟩
  · rw [hT]
    split
    · rename_i e; obtain ⟨rfl, rfl⟩ := e; exact x2 h.up
    · exact low a b ha hb h
  · rw [hT] at h
    split at h
    · rename_i e; obtain ⟨rfl, rfl⟩ := e; exact x1 h
    · exact up a b ha hb h
  · rw [hT]
    split
    · rename_i e; obtain ⟨rfl, rfl⟩ := e; exact x2 h
    · rename_i e
      refine done a b ha hb ?_ h
      rcases hd with hd | ⟨h1, h2⟩
      · exact .inl hd
      · exact .inr ⟨h1, by
          have : b ≠ v := fun e2 => e ⟨h1, e2⟩
          omega⟩

theorem paths_cell (hf : Few g) {K u : Nat} (hK : K < g.length) (hu : u < g.length) (v : Nat) (hv : v < g.length) (t : List (List Bool)) (h : PT g K u v t) :
    ∃ t', PT g K u (v + 1) t' ∧ ∀ r, Ev (fun k => petrinetref07_Paths.l2 k g t' (K : Int) (u : Int) ((v + 1 : Nat) : Int)) r → Ev (fun k => petrinetref07_Paths.l2 k g t (K : Int) (u : Int) (v : Int)) r := by
  have g12 := hf.1
  have hl := h.len
  have hr := h.row u hu
  have hrK := h.row K hK
  by_cases c1 : T t u v = true
  · refine ⟨_, h.put hK hu hv (x := true) (by rw [c1]; rfl), fun r h => Ev.step (fun k => ?_) h⟩
    simp only [petrinetref07_Paths.l2]
    rw [if_pos (by omega), if_pos (by omega), if_pos (by omega), if_pos (by omega), rdB, if_pos (by omega), rdOf_nat, if_pos (show (t.getD u []).getD v false = true from c1), wrap_up hv (by omega), Int.toNat_natCast, Int.toNat_natCast]
  · have c1' : T t u v = false := by simpa using c1
    by_cases c2 : T t u K = true
    · refine ⟨_, h.put hK hu hv (x := T t K v) (by rw [c1', c2]; rfl), fun r h => Ev.step (fun k => ?_) h⟩
      simp only [petrinetref07_Paths.l2]
      rw [if_pos (by omega), if_pos (by omega), if_pos (by omega), if_pos (by omega), rdB, if_pos (by omega), rdOf_nat, if_neg (show ¬ (t.getD u []).getD v false = true from c1), if_pos (by omega), if_pos (by omega), rdOf_nat, if_pos (show (t.getD u []).getD K false = true from c2), if_pos (by omega), rdB, if_pos (by omega), rdOf_nat, wrap_up hv (by omega), Int.toNat_natCast, Int.toNat_natCast]
      rfl
    · have c2' : T t u K = false := by simpa using c2
      refine ⟨_, h.put hK hu hv (x := false) (by rw [c1', c2']; rfl), fun r h => Ev.step (fun k => ?_) h⟩
      simp only [petrinetref07_Paths.l2]
      rw [if_pos (by omega), if_pos (by omega), if_pos (by omega), if_pos (by omega), rdB, if_pos (by omega), rdOf_nat, if_neg (show ¬ (t.getD u []).getD v false = true from c1), if_pos (by omega), if_pos (by omega), rdOf_nat, if_neg (show ¬ (t.getD u []).getD K false = true from c2), wrap_up hv (by omega), Int.toNat_natCast, Int.toNat_natCast]

theorem tab_ev (hf : Few g) : ∃ t, Ev (fun k => petrinetref07_Paths.f k g) t ∧ IsTab t g.length (Rp g) := by
  have g12 := hf.1
  obtain ⟨t0, htab, ht⟩ := table_ev g hf
  obtain ⟨t, h, hk⟩ := Ev_for (l := fun k (t : List (List Bool)) K => petrinetref07_Paths.l0 k g t K) (n := g.length) (inv := fun K t => t.length = g.length ∧ (∀ a, a < g.length → (t.getD a []).length = g.length) ∧ ∀ a b, a < g.length → b < g.length → (T t a b = true ↔ Via g K a b))
    (fun K t hK ⟨len, row, hT⟩ => by
      obtain ⟨t', h', hk'⟩ := Ev_for (l := fun k (t : List (List Bool)) u => petrinetref07_Paths.l1 k g t (K : Int) u) (n := g.length) (inv := fun u t => PT g K u 0 t)
        (fun u t hu h => by
          obtain ⟨t', h', hk'⟩ := Ev_for (l := fun k (t : List (List Bool)) v => petrinetref07_Paths.l2 k g t (K : Int) (u : Int) v) (n := g.length) (inv := fun v t => PT g K u v t) (fun v t hv h => paths_cell hf hK hu v hv t h) (Nat.zero_le _) h
          refine ⟨t', ⟨h'.len, h'.row, h'.low, h'.up, fun a b ha hb hd hv => h'.done a b ha hb (hd.elim (fun h => by
            by_cases e : a = u
            · exact .inr ⟨e, hb⟩
            · exact .inl (by omega)) (fun h => absurd h.2 (Nat.not_lt_zero _))) hv⟩, fun r h => Ev.step (f := fun k => petrinetref07_Paths.l2 k g t (K : Int) (u : Int) 0) (fun k => ?_) (hk' r (Ev.step (fun k => ?_) h))⟩
          · simp only [petrinetref07_Paths.l1]; rw [if_pos (by omega)]
          · simp only [petrinetref07_Paths.l2]; rw [if_neg (by omega), wrap_up hu (by omega)])
        (Nat.zero_le _) (s := t) ⟨len, row, fun a b ha hb => (hT a b ha hb).2, fun a b ha hb h => ((hT a b ha hb).1 h).up, fun a b ha hb hd => hd.elim (fun h => absurd h (Nat.not_lt_zero _)) (fun h => absurd h.2 (Nat.not_lt_zero _))⟩
      refine ⟨t', ⟨h'.len, h'.row, fun a b ha hb => ⟨h'.up a b ha hb, fun hv => h'.done a b ha hb (.inl ha) hv⟩⟩, fun r h => Ev.step (f := fun k => petrinetref07_Paths.l1 k g t (K : Int) 0) (fun k => ?_) (hk' r (Ev.step (fun k => ?_) h))⟩
      · simp only [petrinetref07_Paths.l0]; rw [if_pos (by omega)]
      · simp only [petrinetref07_Paths.l1]; rw [if_neg (by omega), wrap_up hK (by omega)])
    (Nat.zero_le _) (s := t0) ⟨ht.1, fun a ha => (ht.2 a ha).1, fun a b ha hb => ((ht.2 a ha).2 b hb).trans Via.zero.symm⟩
  exact ⟨t, Ev.bind htab (hk t (Ev.one (fun k => by simp only [petrinetref07_Paths.l0]; rw [if_neg (by omega)]))), h.1, fun u hu => ⟨h.2.1 u hu, fun v hv => (h.2.2 u v hu hv).trans Via.all⟩⟩

/-! ### the reference's list -/
/-- Reached from one of the first i numbers of the list. -/
def From (g : List (List Int)) (xs : List Int) (i v : Nat) : Prop := ∃ j s : Nat, j < i ∧ rd xs (j : Int) = (s : Int) ∧ R g s v
def IsReach (g : List (List Int)) (xs : List Int) (out : List Bool) : Prop := out.length = g.length ∧ ∀ v, v < g.length → (out.getD v false = true ↔ From g xs xs.length v)
theorem IsReach.uniq {xs : List Int} {a b : List Bool} (h : IsReach g xs a) (k : IsReach g xs b) : a = b := by
  refine ext_rdOf false (h.1.trans k.1.symm) (fun i hi => ?_)
  rw [rdOf_nat, rdOf_nat]
  have hi' : i < g.length := by rw [← h.1]; exact hi
  exact Bool.eq_iff_iff.2 ((h.2 i hi').trans (k.2 i hi').symm)
theorem refreach_ev (hf : Few g) (xs : List Int) (hx : xs.length ≤ 1000) : ∃ out, Ev (fun k => petrinetref07_Reach.f k g xs) out ∧ IsReach g xs out := by
  have g12 := hf.1
  obtain ⟨t, htab, ht⟩ := tab_ev hf
  obtain ⟨out, ⟨hl, ho⟩, hk⟩ := Ev_for (l := fun k (out : List Bool) i => petrinetref07_Reach.l0 k g xs t out i) (n := xs.length) (inv := fun i out => out.length = g.length ∧ ∀ v, v < g.length → (out.getD v false = true ↔ From g xs i v))
    (fun i out hi ⟨hl, ho⟩ => by
      by_cases c : 0 ≤ rd xs (i : Int) ∧ rd xs (i : Int) < (g.length : Int)
      · obtain ⟨c0, c1⟩ := c
        obtain ⟨s, hs⟩ : ∃ s : Nat, rd xs (i : Int) = (s : Int) := ⟨(rd xs (i : Int)).toNat, by omega⟩
        have hsg : s < g.length := by omega
        have htl := ht.1
        obtain ⟨hr1, hr2⟩ := ht.2 s hsg
        obtain ⟨out', ⟨hl', ho'⟩, hk'⟩ := Ev_for (l := fun k (out : List Bool) v => petrinetref07_Reach.l1 k g xs t out (i : Int) v) (n := g.length) (inv := fun v o => o.length = g.length ∧ ∀ y, y < g.length → (o.getD y false = true ↔ (out.getD y false = true ∨ y = s ∨ (y < v ∧ Rp g s y))))
          (fun v o hv ⟨hl', ho'⟩ => by
            by_cases d1 : o.getD v false = true
            · refine ⟨o.set v true, ⟨by rw [List.length_set]; exact hl', fun y hy => ?_⟩, fun r h => Ev.step (fun k => ?_) h⟩
              · rw [getD_set _ _ _ _ _ (by omega)]
                by_cases e : y = v
                · subst e
                  rw [if_pos rfl]
                  refine ⟨fun _ => ?_, fun _ => rfl⟩
                  rcases (ho' y hy).1 d1 with h | h | ⟨h1, _⟩
                  · exact .inl h
                  · exact .inr (.inl h)
                  · exact absurd h1 (Nat.lt_irrefl _)
                · rw [if_neg e, ho' y hy]
                  exact ⟨fun h => h.imp id (fun h => h.imp id (fun h => ⟨by omega, h.2⟩)), fun h => h.imp id (fun h => h.imp id (fun h => ⟨by omega, h.2⟩))⟩
              · simp only [petrinetref07_Reach.l1]
                rw [if_pos (by omega), if_pos (by omega), if_pos (by omega), rdOf_nat, if_pos d1, wrap_up hv (by omega), Int.toNat_natCast]
            · refine ⟨o.set v ((t.getD s []).getD v false), ⟨by rw [List.length_set]; exact hl', fun y hy => ?_⟩, fun r h => Ev.step (fun k => ?_) h⟩
              · rw [getD_set _ _ _ _ _ (by omega)]
                by_cases e : y = v
                · subst e
                  rw [if_pos rfl, hr2 y hy]
                  refine ⟨fun h => .inr (.inr ⟨Nat.lt_succ_self _, h⟩), fun h => ?_⟩
                  rcases h with h | h | h
                  · exact absurd ((ho' y hy).2 (.inl h)) d1
                  · exact absurd ((ho' y hy).2 (.inr (.inl h))) d1
                  · exact h.2
                · rw [if_neg e, ho' y hy]
                  exact ⟨fun h => h.imp id (fun h => h.imp id (fun h => ⟨by omega, h.2⟩)), fun h => h.imp id (fun h => h.imp id (fun h => ⟨by omega, h.2⟩))⟩
              · simp only [petrinetref07_Reach.l1]
                rw [if_pos (by omega), if_pos (by omega), if_pos (by omega), rdOf_nat, if_neg d1, if_pos (by omega), if_pos (by omega), hs, if_pos (by omega), if_pos (by omega), rdB, if_pos (by omega), rdOf_nat, wrap_up hv (by omega), Int.toNat_natCast])
          (Nat.zero_le _) (s := out.set s true) ⟨by rw [List.length_set]; exact hl, fun y hy => by
            rw [getD_set _ _ _ _ _ (by omega)]
            by_cases e : y = s
            · rw [if_pos e]; exact ⟨fun _ => .inr (.inl e), fun _ => rfl⟩
            · rw [if_neg e]
              exact ⟨.inl, fun h => h.elim id (fun h => h.elim (fun h => absurd h e) (fun h => absurd h.1 (Nat.not_lt_zero _)))⟩⟩
        refine ⟨out', ⟨hl', fun v hv => ?_⟩, fun r h => Ev.step (f := fun k => petrinetref07_Reach.j1 k g xs t out (i : Int) false) (fun k => ?_) (Ev.step (f := fun k => petrinetref07_Reach.l1 k g xs t (out.set s true) (i : Int) 0) (fun k => ?_) (hk' r (Ev.step (fun k => ?_) h)))⟩
        · rw [ho' v hv, ho v hv]
          constructor
          · rintro (⟨j, s', hj, h1, h2⟩ | h | ⟨_, h⟩)
            · exact ⟨j, s', by omega, h1, h2⟩
            · subst h; exact ⟨i, v, Nat.lt_succ_self _, hs, R.refl hv⟩
            · exact ⟨i, s, Nat.lt_succ_self _, hs, h.toR⟩
          · rintro ⟨j, s', hj, h1, h2⟩
            by_cases e : j = i
            · subst e
              have : s' = s := by omega
              subst this
              rcases R_iff.1 h2 with ⟨h, _⟩ | h
              · exact .inr (.inl h.symm)
              · exact .inr (.inr ⟨hv, h⟩)
            · exact .inl ⟨j, s', by omega, h1, h2⟩
        · simp only [petrinetref07_Reach.l0]
          rw [if_pos (by omega), if_pos (by omega), if_neg (by omega), decide_eq_false (by omega)]
        · simp only [petrinetref07_Reach.j1]
          rw [if_neg (by decide), if_pos (by omega), if_pos (by omega), hs, if_pos (by omega), if_pos (by omega), Int.toNat_natCast]
        · simp only [petrinetref07_Reach.l1]
          rw [if_neg (by omega), wrap_up hi (by omega)]
      · refine ⟨out, ⟨hl, fun v hv => ?_⟩, fun r h => Ev.step (f := fun k => petrinetref07_Reach.j1 k g xs t out (i : Int) true) (fun k => ?_) (Ev.step (fun k => ?_) h)⟩
        · rw [ho v hv]
          constructor
          · rintro ⟨j, s', hj, h1, h2⟩; exact ⟨j, s', by omega, h1, h2⟩
          · rintro ⟨j, s', hj, h1, h2⟩
            refine ⟨j, s', ?_, h1, h2⟩
            rcases Nat.lt_or_ge j i with h | h
            · exact h
            · have e : j = i := by omega
              subst e
              have := h2.lt.1
              exact absurd ⟨by omega, by omega⟩ c
        · simp only [petrinetref07_Reach.l0]
          rw [if_pos (by omega), if_pos (by omega)]
          by_cases c0 : rd xs (i : Int) < 0
          · rw [if_pos c0]
          · rw [if_neg c0, decide_eq_true (by omega)]
        · simp only [petrinetref07_Reach.j1]
          rw [if_pos trivial, wrap_up hi (by omega)])
    (Nat.zero_le _) (s := List.replicate g.length false) ⟨by simp, fun v hv => by
      rw [List.getD_eq_getElem?_getD, List.getElem?_replicate, if_pos hv]
      exact ⟨fun h => by simp at h, fun ⟨j, _, hj, _⟩ => absurd hj (Nat.not_lt_zero _)⟩⟩
  refine ⟨out, Ev.bind htab ?_, hl, ho⟩
  refine Ev.congr (f := fun k => petrinetref07_Reach.l0 k g xs t (List.replicate g.length false) 0) (fun k => ?_) (hk out (Ev.one (fun k => by simp only [petrinetref07_Reach.l0]; rw [if_neg (by omega)])))
  rw [if_pos (by omega), if_pos (by omega), Int.toNat_natCast]

/-! ### the search over a stack -/
def tr (b : Bool) : Bool := !b
/-- S: what may be marked; pend: the vertex whose list is gone through. -/
structure RC (g : List (List Int)) (S : Nat → Prop) (pend : Nat → Prop) (M : Nat) (out : List Bool) (todo : List Int) : Prop where
  len : out.length = g.length
  tin : ∀ a ∈ todo, ∃ x : Nat, a = (x : Int) ∧ x < g.length ∧ out.getD x false = true
  sound : ∀ y, y < g.length → out.getD y false = true → S y
  closed : ∀ y, y < g.length → out.getD y false = true → (y : Int) ∈ todo ∨ pend y ∨ ∀ z, Ed g y z → out.getD z false = true
  size : 2 * out.countP tr + todo.length ≤ M
theorem visit_go {S pend : Nat → Prop} {M : Nat} {out : List Bool} {todo : List Int} (h : RC g S pend M out todo) (hM : M ≤ 100000) (w : Int) (hw : ∀ x : Nat, w = (x : Int) → x < g.length → S x) :
    ∃ p : List Bool × List Int, visitM g out todo w = some p ∧ RC g S pend M p.1 p.2 ∧ (∀ x : Nat, w = (x : Int) → x < g.length → p.1.getD x false = true) ∧ (∀ y, out.getD y false = true → p.1.getD y false = true) := by
  obtain ⟨len, tin, sound, closed, size⟩ := h
  by_cases c : 0 ≤ w ∧ w < (g.length : Int)
  · obtain ⟨c0, c1⟩ := c
    obtain ⟨x, rfl⟩ : ∃ x : Nat, w = (x : Int) := ⟨w.toNat, by omega⟩
    have hx : x < g.length := by omega
    by_cases d : out.getD x false = true
    · refine ⟨(out, todo), ?_, ⟨len, tin, sound, closed, size⟩, fun y hy _ => by rw [show y = x by omega]; exact d, fun y h => h⟩
      unfold visitM
      rw [if_pos c0, if_pos c1, rdOf_nat, if_pos d]
    · have d' : out.getD x false = false := by simpa using d
      have hg : ∀ y, (out.set x true).getD y false = if y = x then true else out.getD y false := fun y => getD_set _ _ _ _ _ (by omega)
      have hc : (out.set x true).countP tr + 1 = out.countP tr := by
        have := cnt_set' tr out x true false (by omega)
        rw [d'] at this
        simp [tr] at this
        exact this
      have hmono : ∀ y, out.getD y false = true → (out.set x true).getD y false = true := fun y h => by
        rw [hg]; split
        · rfl
        · exact h
      refine ⟨(out.set x true, todo ++ [(x : Int)]), ?_, ⟨by rw [List.length_set]; exact len, fun a ha => ?_, fun y hy h => ?_, fun y hy h => ?_, ?_⟩, fun y hy _ => ?_, hmono⟩
      · unfold visitM
        rw [if_pos c0, if_pos c1, rdOf_nat, if_neg d, if_pos (by omega), Int.toNat_natCast]
      · rcases List.mem_append.1 ha with ha | ha
        · obtain ⟨y, h1, h2, h3⟩ := tin a ha
          exact ⟨y, h1, h2, hmono y h3⟩
        · simp at ha
          exact ⟨x, ha, hx, by rw [hg, if_pos rfl]⟩
      · rw [hg] at h
        by_cases e : y = x
        · subst e; exact hw y rfl hy
        · rw [if_neg e] at h; exact sound y hy h
      · by_cases e : y = x
        · exact .inl (by rw [e]; simp)
        · rw [hg, if_neg e] at h
          rcases closed y hy h with h | h | h
          · exact .inl (List.mem_append.2 (.inl h))
          · exact .inr (.inl h)
          · exact .inr (.inr fun z hz => hmono z (h z hz))
      · rw [List.length_append]
        simp
        omega
      · have : y = x := by omega
        rw [this, hg, if_pos rfl]
  · refine ⟨(out, todo), ?_, ⟨len, tin, sound, closed, size⟩, fun y hy h => absurd (by omega) c, fun y h => h⟩
    unfold visitM
    by_cases c0 : 0 ≤ w
    · rw [if_pos c0, if_neg (fun c1 => c ⟨c0, c1⟩)]
    · rw [if_neg c0]
theorem reach_loop (hf : Few g) {S : Nat → Prop} (hS : ∀ u v, S u → Ed g u v → S v) : ∀ (M : Nat) (out : List Bool) (todo : List Int), RC g S (fun _ => False) M out todo → M ≤ 100000 →
    ∃ o, Ev (fun k => digraph_Reach.l1 k g out todo) o ∧ RC g S (fun _ => False) M o [] ∧ ∀ y, out.getD y false = true → o.getD y false = true := by
  intro M
  induction M using Nat.strongRecOn with
  | _ M ih =>
  intro out todo h hM
  by_cases c : 0 < (todo.length : Int)
  · obtain ⟨v, hv, hvg, hvo⟩ := h.tin _ (rd_mem (xs := todo) (i := (todo.length : Int) - 1) (by omega) (by omega))
    have hsz := h.size
    have h20 := hf.2 v hvg
    have hdrop : todo = todo.take (todo.length - 1) ++ [(v : Int)] := by
      have e1 := List.take_append_drop (todo.length - 1) todo
      have e2 : todo.drop (todo.length - 1) = [(v : Int)] := by
        rw [List.drop_eq_getElem_cons (by omega), List.drop_eq_nil_of_le (by omega)]
        congr 1
        rw [← hv, show (todo.length : Int) - 1 = ((todo.length - 1 : Nat) : Int) by omega, rd_nat, List.getD_eq_getElem?_getD, List.getElem?_eq_getElem (by omega)]
        rfl
      rw [e2] at e1
      exact e1.symm
    obtain ⟨p, ⟨hp, hpm, hprog⟩, hk⟩ := Ev_for (l := fun k (p : List Bool × List Int) i => digraph_Reach.l2 k g p.1 p.2 (g.getD v []) i) (n := (g.getD v []).length)
      (inv := fun i p => RC g S (fun y => y = v) (M - 1) p.1 p.2 ∧ (∀ y, out.getD y false = true → p.1.getD y false = true) ∧ ∀ j, j < i → ∀ x : Nat, rd (g.getD v []) (j : Int) = (x : Int) → x < g.length → p.1.getD x false = true)
      (fun i p hi ⟨hp, hpm, hprog⟩ => by
        obtain ⟨q, hq1, hq2, hq3, hq4⟩ := visit_go hp (by omega) (rd (g.getD v []) (i : Int)) (fun x hx hxg => hS v x (h.sound v hvg hvo) ⟨hvg, hxg, by rw [← hx]; exact rd_mem (by omega) (by omega)⟩)
        refine ⟨q, ⟨hq2, fun y hy => hq4 y (hpm y hy), fun j hj x hx hxg => ?_⟩, fun r h => Ev.step (f := fun k => digraph_Reach.l2 k g q.1 q.2 (g.getD v []) ((i + 1 : Nat) : Int)) (fun k => ?_) h⟩
        · by_cases e : j = i
          · subst e; exact hq3 x hx hxg
          · exact hq4 x (hprog j (by omega) x hx hxg)
        · simp only [digraph_Reach.l2]
          rw [if_pos (by omega), if_pos (by omega), hq1, wrap_up hi (by omega)]
          rfl)
      (Nat.zero_le _) (s := (out, todo.take (todo.length - 1))) ⟨⟨h.len, fun a ha => h.tin a (List.mem_of_mem_take ha), h.sound, fun y hy hyo => by
          rcases h.closed y hy hyo with h1 | h1 | h1
          · rw [hdrop] at h1
            rcases List.mem_append.1 h1 with h1 | h1
            · exact .inl h1
            · simp at h1
              exact .inr (.inl (by omega))
          · exact h1.elim
          · exact .inr (.inr h1), by
            show 2 * out.countP tr + (todo.take (todo.length - 1)).length ≤ M - 1
            rw [List.length_take]; omega⟩, fun y hy => hy, fun j hj => absurd hj (Nat.not_lt_zero _)⟩
    obtain ⟨o2, t2⟩ := p
    have hp' : RC g S (fun _ => False) (M - 1) o2 t2 := ⟨hp.len, hp.tin, hp.sound, fun y hy hyo => by
      rcases hp.closed y hy hyo with h1 | h1 | h1
      · exact .inl h1
      · subst h1
        refine .inr (.inr fun z hz => ?_)
        obtain ⟨j, hj, e⟩ := mem_rd hz.2.2
        exact hprog j hj z e hz.2.1
      · exact .inr (.inr h1), hp.size⟩
    obtain ⟨o, ho1, ho2, ho3⟩ := ih (M - 1) (by omega) o2 t2 hp' (by omega)
    refine ⟨o, Ev.step (f := fun k => digraph_Reach.l2 k g out (todo.take (todo.length - 1)) (g.getD v []) 0) (fun k => ?_) (hk o (Ev.step (fun k => ?_) ho1)), ⟨ho2.len, ho2.tin, ho2.sound, ho2.closed, by have := ho2.size; omega⟩, fun y hy => ho3 y (hpm y hy)⟩
    · simp only [digraph_Reach.l1]
      rw [if_pos c, hv, if_pos (by omega), if_pos (by omega), rdL]
    · simp only [digraph_Reach.l2]
      rw [if_neg (by omega)]
  · have e : todo = [] := List.eq_nil_of_length_eq_zero (by omega)
    subst e
    exact ⟨out, Ev.one (fun k => by simp only [digraph_Reach.l1]; rw [if_neg c]), h, fun y hy => hy⟩
theorem reach_ev (hf : Few g) (xs : List Int) (hx : xs.length ≤ 1000) : ∃ out, Ev (fun k => digraph_Reach.f k g xs) out ∧ IsReach g xs out := by
  have g12 := hf.1
  have hS : ∀ u v, From g xs xs.length u → Ed g u v → From g xs xs.length v := fun u v ⟨j, s, h1, h2, h3⟩ he => ⟨j, s, h1, h2, h3.trans (R.edge he)⟩
  obtain ⟨p, ⟨hp, hprog⟩, hk⟩ := Ev_for (l := fun k (p : List Bool × List Int) i => digraph_Reach.l0 k g xs p.1 p.2 i) (n := xs.length)
    (inv := fun i p => RC g (From g xs xs.length) (fun _ => False) 1000 p.1 p.2 ∧ ∀ j, j < i → ∀ x : Nat, rd xs (j : Int) = (x : Int) → x < g.length → p.1.getD x false = true)
    (fun i p hi ⟨hp, hprog⟩ => by
      obtain ⟨q, hq1, hq2, hq3, hq4⟩ := visit_go hp (by omega) (rd xs (i : Int)) (fun x hx hxg => ⟨i, x, hi, hx, R.refl hxg⟩)
      refine ⟨q, ⟨hq2, fun j hj x hx hxg => ?_⟩, fun r h => Ev.step (f := fun k => digraph_Reach.l0 k g xs q.1 q.2 ((i + 1 : Nat) : Int)) (fun k => ?_) h⟩
      · by_cases e : j = i
        · subst e; exact hq3 x hx hxg
        · exact hq4 x (hprog j (by omega) x hx hxg)
      · simp only [digraph_Reach.l0]
        rw [if_pos (by omega), if_pos (by omega), hq1, wrap_up hi (by omega)]
        rfl)
    (Nat.zero_le _) (s := (List.replicate g.length false, [])) ⟨⟨by simp, fun a ha => (by cases ha), fun y hy h => by
        simp [List.getD_eq_getElem?_getD, hy] at h, fun y hy h => by
        simp [List.getD_eq_getElem?_getD, hy] at h, by
        have : (List.replicate g.length false).countP tr ≤ (List.replicate g.length false).length := List.countP_le_length
        simp at this ⊢
        omega⟩, fun j hj => absurd hj (Nat.not_lt_zero _)⟩
  obtain ⟨o1, t1⟩ := p
  obtain ⟨o, ho1, ho2, ho3⟩ := reach_loop hf hS 1000 o1 t1 hp (by omega)
  refine ⟨o, ?_, ho2.len, fun v hv => ⟨ho2.sound v hv, fun ⟨j, s, h1, h2, h3⟩ => ?_⟩⟩
  · refine Ev.congr (f := fun k => digraph_Reach.l0 k g xs (List.replicate g.length false) [] 0) (fun k => ?_) (hk o (Ev.step (fun k => ?_) ho1))
    · unfold digraph_Reach.f
      rw [if_pos (by omega)]
    · simp only [digraph_Reach.l0]
      rw [if_neg (by omega)]
  · have hs := ho3 s (hprog j h1 s h2 h3.lt.1)
    exact R.closed (p := fun y => o.getD y false = true) (fun a b ha hab => by
      rcases ho2.closed a hab.1 ha with h | h | h
      · cases h
      · exact h.elim
      · exact h b hab) h3 hs

/-! ### cycles -/
open Classical in
theorem cyclic_ev (hf : Few g) (a : Int) : Ev (fun k => digraph_Cyclic.f k g a) (decide (∃ v : Nat, a = (v : Int) ∧ Rp g v v)) ∧ Ev (fun k => petrinetref07_Cyclic.f k g a) (decide (∃ v : Nat, a = (v : Int) ∧ Rp g v v)) := by
  have g12 := hf.1
  by_cases c : 0 ≤ a ∧ a < (g.length : Int)
  · obtain ⟨c0, c1⟩ := c
    obtain ⟨v, rfl⟩ : ∃ v : Nat, a = (v : Int) := ⟨a.toNat, by omega⟩
    have hv : v < g.length := by omega
    have h20 := hf.2 v hv
    have hin : digraph_inside.f g (v : Int) = some true := by unfold digraph_inside.f; rw [if_pos c0, decide_eq_true c1]
    have e : decide (∃ x : Nat, (v : Int) = (x : Int) ∧ Rp g x x) = decide (Rp g v v) := by
      rw [decide_eq_decide]
      exact ⟨fun ⟨x, h1, h2⟩ => by rw [show v = x by omega]; exact h2, fun h => ⟨v, rfl, h⟩⟩
    rw [e]
    constructor
    · obtain ⟨o, ho, hl, hr⟩ := reach_ev hf (g.getD v []) (by omega)
      have e2 : o.getD v false = decide (Rp g v v) := by
        rw [Bool.eq_iff_iff, hr v hv, decide_eq_true_eq, Rp_iff]
        constructor
        · rintro ⟨j, s, h1, h2, h3⟩
          exact ⟨s, ⟨hv, h3.lt.1, by rw [← h2]; exact rd_mem (by omega) (by omega)⟩, h3⟩
        · rintro ⟨w, h1, h2⟩
          obtain ⟨j, hj, e⟩ := mem_rd h1.2.2
          exact ⟨j, w, hj, e, h2⟩
      unfold digraph_Cyclic.f
      rw [hin]
      simp only [Option.bind_some, ↓reduceIte]
      refine Ev.congr (f := fun k => (digraph_Reach.f k g (g.getD v [])).bind fun t454 => (if (v : Int) < (t454.length : Int) then (some (rdOf false t454 (v : Int))) else (none))) (fun k => by rw [if_pos c0, if_pos c1, rdL]) (Ev.bind ho ?_)
      refine Ev.congr (f := fun _ => some (decide (Rp g v v))) (fun k => ?_) (Ev.some _)
      rw [if_pos (by omega), rdOf_nat, e2]
    · obtain ⟨t, htab, ht⟩ := tab_ev hf
      obtain ⟨h1, h2⟩ := ht.2 v hv
      have htl := ht.1
      have e2 : (t.getD v []).getD v false = decide (Rp g v v) := by rw [Bool.eq_iff_iff, h2 v hv, decide_eq_true_eq]
      unfold petrinetref07_Cyclic.f
      refine Ev.congr (f := fun k => (petrinetref07_Paths.f k g).bind fun t458 => (if 0 ≤ (v : Int) then (if (v : Int) < (t458.length : Int) then (if (v : Int) < ((rd_L4 t458 (v : Int)).length : Int) then (some (rdOf false (rd_L4 t458 (v : Int)) (v : Int))) else (none)) else (none)) else (none))) (fun k => by rw [if_neg (by omega), if_neg (by omega)]) (Ev.bind htab ?_)
      refine Ev.congr (f := fun _ => some (decide (Rp g v v))) (fun k => ?_) (Ev.some _)
      rw [if_pos (by omega), if_pos (by omega), rdB, if_pos (by omega), rdOf_nat, e2]
  · have e : decide (∃ x : Nat, a = (x : Int) ∧ Rp g x x) = false := decide_eq_false (fun ⟨x, h1, h2⟩ => c (by have := h2.toR.lt.1; omega))
    rw [e]
    constructor
    · refine Ev.congr (f := fun _ => some false) (fun k => ?_) (Ev.some _)
      unfold digraph_Cyclic.f digraph_inside.f
      by_cases c0 : a ≥ 0
      · rw [if_pos c0, decide_eq_false (fun c1 => c ⟨c0, c1⟩)]; rfl
      · rw [if_neg c0]; rfl
    · refine Ev.congr (f := fun _ => some false) (fun k => ?_) (Ev.some _)
      unfold petrinetref07_Cyclic.f
      by_cases c0 : a < 0
      · rw [if_pos c0]
      · rw [if_neg c0, if_pos (by omega)]
theorem bools_ev (a : List Bool) (ha : a.length ≤ 1000000000) : Ev (fun k => petrinetlaw07_bools.f k a a) true := by
  refine Ev.congr (f := fun k => petrinetlaw07_bools.l0 k a a 0) (fun k => by unfold petrinetlaw07_bools.f; rw [if_pos rfl]) ?_
  obtain ⟨_, _, hk⟩ := Ev_for (l := fun k (_ : Unit) i => petrinetlaw07_bools.l0 k a a i) (n := a.length) (inv := fun _ _ => True)
    (fun i _ hi _ => ⟨(), trivial, fun r h => Ev.step (fun k => by
      simp only [petrinetlaw07_bools.l0]
      rw [if_pos (by omega), if_pos (by omega), if_pos (by omega), if_neg (by simp), wrap_up hi (by omega)]) h⟩) (Nat.zero_le _) (s := ()) trivial
  exact hk true (Ev.one (fun k => by simp only [petrinetlaw07_bools.l0]; rw [if_neg (by omega)]))
end
end Go.Proofs.Ytcljocmblplhcaa.Pl
