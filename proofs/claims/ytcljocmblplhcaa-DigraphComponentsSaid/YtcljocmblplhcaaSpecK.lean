/- The reference's table of walks. -/
import Derived.Test.YtcljocmblplhcaaPx5
import Derived.Test.YtcljocmblplhcaaSpecAT
namespace Go.Proofs.Ytcljocmblplhcaa.Pl
open Go.RowKit Go.Proofs.Ytcljocmblplhcaa.P Go.Proofs.YtcljocmblplhcaaW.PrintWords Go.Proofs.YtcljocmblplhcaaW.PrintMore
/-! ### a table, read and written -/
def T (t : List (List Bool)) (a b : Nat) : Bool := (t.getD a []).getD b false
theorem T_set (t : List (List Bool)) (u v : Nat) (x : Bool) (hu : u < t.length) (hv : v < (t.getD u []).length) (a b : Nat) : T (t.set u ((t.getD u []).set v x)) a b = if a = u ∧ b = v then x else T t a b := by
  unfold T
  rw [getD_set _ _ _ _ _ hu]
  by_cases e : a = u
  · rw [if_pos e, getD_set _ _ _ _ _ hv]
    subst e
    by_cases e2 : b = v
    · rw [if_pos e2, if_pos ⟨rfl, e2⟩]
    · rw [if_neg e2, if_neg (fun h => e2 h.2)]
  · rw [if_neg e, if_neg (fun h => e h.1)]
theorem T_row (t : List (List Bool)) (u v : Nat) (x : Bool) (n : Nat) (hu : u < t.length) (h : ∀ a, a < n → (t.getD a []).length = n) (a : Nat) (ha : a < n) : ((t.set u ((t.getD u []).set v x)).getD a []).length = n := by
  rw [getD_set _ _ _ _ _ hu]
  by_cases e : a = u
  · rw [if_pos e, List.length_set]; subst e; exact h a ha
  · rw [if_neg e]; exact h a ha

section
variable {g : List (List Int)}
theorem Via.at {K u : Nat} (h : Via g (K + 1) u K) : Via g K u K := (Via.succ.1 h).elim id (fun h => h.1)
theorem Via.from {K v : Nat} (h : Via g (K + 1) K v) : Via g K K v := (Via.succ.1 h).elim id (fun h => h.2)

/-- In round K: rows below u are done, of row u the columns below v. -/
structure PT (g : List (List Int)) (K u v : Nat) (t : List (List Bool)) : Prop where
  len : t.length = g.length
  row : ∀ a, a < g.length → (t.getD a []).length = g.length
  low : ∀ a b, a < g.length → b < g.length → Via g K a b → T t a b = true
  up : ∀ a b, a < g.length → b < g.length → T t a b = true → Via g (K + 1) a b
  done : ∀ a b, a < g.length → b < g.length → (a < u ∨ (a = u ∧ b < v)) → Via g (K + 1) a b → T t a b = true

theorem PT.put {K u v : Nat} {t : List (List Bool)} (h : PT g K u v t) (hK : K < g.length) (hu : u < g.length) (hv : v < g.length) {x : Bool} (hx : x = (T t u v || (T t u K && T t K v))) :
    PT g K u (v + 1) (t.set u ((t.getD u []).set v x)) := by
  obtain ⟨len, row, low, up, done⟩ := h
  have hl := row u hu
  have hT := T_set t u v x (by omega) (by omega)
  have x1 : x = true → Via g (K + 1) u v := fun h => by
    rw [hx] at h
    rcases Bool.or_eq_true _ _ ▸ h with h | h
    · exact up u v hu hv h
    · rw [Bool.and_eq_true] at h
      exact Via.succ.2 (.inr ⟨(up u K hu hK h.1).at, (up K v hK hv h.2).from⟩)
  have x2 : Via g (K + 1) u v → x = true := fun h => by
    rw [hx]
    rcases Via.succ.1 h with h | ⟨h1, h2⟩
    · rw [low u v hu hv h]; rfl
    · rw [low u K hu hK h1, low K v hK hv h2]; simp
  refine ⟨by rw [List.length_set]; exact len, T_row t u v x g.length (by omega) row, fun a b ha hb h => ?_, fun a b ha hb h => ?_, fun a b ha hb hd h => ?_⟩
  · rw [hT]
    split
    · rename_i e; obtain ⟨rfl, rfl⟩ := e; exact x2 h.up
    · exact low a b ha hb h
  · rw [hT] at h
    split at h
    · rename_i e; obtain ⟨rfl, rfl⟩ := e; exact x1 h
    · exact up a b ha hb h
  · rw [hT]
    split
    · rename_i e; obtain ⟨rfl, rfl⟩ := e; exact x2 h
    · rename_i e
      refine done a b ha hb ?_ h
      rcases hd with hd | ⟨h1, h2⟩
      · exact .inl hd
      · exact .inr ⟨h1, by
          have : b ≠ v := fun e2 => e ⟨h1, e2⟩
          omega⟩

theorem paths_cell (hf : Few g) {K u : Nat} (hK : K < g.length) (hu : u < g.length) (v : Nat) (hv : v < g.length) (t : List (List Bool)) (h : PT g K u v t) :
    ∃ t', PT g K u (v + 1) t' ∧ ∀ r, Ev (fun k => petrinetref07_Paths.l2 k g t' (K : Int) (u : Int) ((v + 1 : Nat) : Int)) r → Ev (fun k => petrinetref07_Paths.l2 k g t (K : Int) (u : Int) (v : Int)) r := by
  have g12 := hf.1
  have hl := h.len
  have hr := h.row u hu
  have hrK := h.row K hK
  by_cases c1 : T t u v = true
  · refine ⟨_, h.put hK hu hv (x := true) (by rw [c1]; rfl), fun r h => Ev.step (fun k => ?_) h⟩
    simp only [petrinetref07_Paths.l2]
    rw [if_pos (by omega), if_pos (by omega), if_pos (by omega), if_pos (by omega), rdB, if_pos (by omega), rdOf_nat, if_pos (show (t.getD u []).getD v false = true from c1), wrap_up hv (by omega), Int.toNat_natCast, Int.toNat_natCast]
  · have c1' : T t u v = false := by simpa using c1
    by_cases c2 : T t u K = true
    · refine ⟨_, h.put hK hu hv (x := T t K v) (by rw [c1', c2]; rfl), fun r h => Ev.step (fun k => ?_) h⟩
      simp only [petrinetref07_Paths.l2]
      rw [if_pos (by omega), if_pos (by omega), if_pos (by omega), if_pos (by omega), rdB, if_pos (by omega), rdOf_nat, if_neg (show ¬ (t.getD u []).getD v false = true from c1), if_pos (by omega), if_pos (by omega), rdOf_nat, if_pos (show (t.getD u []).getD K false = true from c2), if_pos (by omega), rdB, if_pos (by omega), rdOf_nat, wrap_up hv (by omega), Int.toNat_natCast, Int.toNat_natCast]
      rfl
    · have c2' : T t u K = false := by simpa using c2
      refine ⟨_, h.put hK hu hv (x := false) (by rw [c1', c2']; rfl), fun r h => Ev.step (fun k => ?_) h⟩
      simp only [petrinetref07_Paths.l2]
      rw [if_pos (by omega), if_pos (by omega), if_pos (by omega), if_pos (by omega), rdB, if_pos (by omega), rdOf_nat, if_neg (show ¬ (t.getD u []).getD v false = true from c1), if_pos (by omega), if_pos (by omega), rdOf_nat, if_neg (show ¬ (t.getD u []).getD K false = true from c2), wrap_up hv (by omega), Int.toNat_natCast, Int.toNat_natCast]

theorem tab_ev (hf : Few g) : ∃ t, Ev (fun k => petrinetref07_Paths.f k g) t ∧ IsTab t g.length (Rp g) := by
  have g12 := hf.1
  obtain ⟨t0, htab, ht⟩ := table_ev g hf
  obtain ⟨t, h, hk⟩ := Ev_for (l := fun k (t : List (List Bool)) K => petrinetref07_Paths.l0 k g t K) (n := g.length) (inv := fun K t => t.length = g.length ∧ (∀ a, a < g.length → (t.getD a []).length = g.length) ∧ ∀ a b, a < g.length → b < g.length → (T t a b = true ↔ Via g K a b))
    (fun K t hK ⟨len, row, hT⟩ => by
      obtain ⟨t', h', hk'⟩ := Ev_for (l := fun k (t : List (List Bool)) u => petrinetref07_Paths.l1 k g t (K : Int) u) (n := g.length) (inv := fun u t => PT g K u 0 t)
        (fun u t hu h => by
          obtain ⟨t', h', hk'⟩ := Ev_for (l := fun k (t : List (List Bool)) v => petrinetref07_Paths.l2 k g t (K : Int) (u : Int) v) (n := g.length) (inv := fun v t => PT g K u v t) (fun v t hv h => paths_cell hf hK hu v hv t h) (Nat.zero_le _) h
          refine ⟨t', ⟨h'.len, h'.row, h'.low, h'.up, fun a b ha hb hd hv => h'.done a b ha hb (hd.elim (fun h => by
            by_cases e : a = u
            · exact .inr ⟨e, hb⟩
            · exact .inl (by omega)) (fun h => absurd h.2 (Nat.not_lt_zero _))) hv⟩, fun r h => Ev.step (f := fun k => petrinetref07_Paths.l2 k g t (K : Int) (u : Int) 0) (fun k => ?_) (hk' r (Ev.step (fun k => ?_) h))⟩
          · simp only [petrinetref07_Paths.l1]; rw [if_pos (by omega)]
          · simp only [petrinetref07_Paths.l2]; rw [if_neg (by omega), wrap_up hu (by omega)])
        (Nat.zero_le _) (s := t) ⟨len, row, fun a b ha hb => (hT a b ha hb).2, fun a b ha hb h => ((hT a b ha hb).1 h).up, fun a b ha hb hd => hd.elim (fun h => absurd h (Nat.not_lt_zero _)) (fun h => absurd h.2 (Nat.not_lt_zero _))⟩
      refine ⟨t', ⟨h'.len, h'.row, fun a b ha hb => ⟨h'.up a b ha hb, fun hv => h'.done a b ha hb (.inl ha) hv⟩⟩, fun r h => Ev.step (f := fun k => petrinetref07_Paths.l1 k g t (K : Int) 0) (fun k => ?_) (hk' r (Ev.step (fun k => ?_) h))⟩
      · simp only [petrinetref07_Paths.l0]; rw [if_pos (by omega)]
      · simp only [petrinetref07_Paths.l1]; rw [if_neg (by omega), wrap_up hK (by omega)])
    (Nat.zero_le _) (s := t0) ⟨ht.1, fun a ha => (ht.2 a ha).1, fun a b ha hb => ((ht.2 a ha).2 b hb).trans Via.zero.symm⟩
  exact ⟨t, Ev.bind htab (hk t (Ev.one (fun k => by simp only [petrinetref07_Paths.l0]; rw [if_neg (by omega)]))), h.1, fun u hu => ⟨h.2.1 u hu, fun v hv => (h.2.2 u v hu hv).trans Via.all⟩⟩

end
end Go.Proofs.Ytcljocmblplhcaa.Pl
