/- Shortest distances: the reference's rounds and the search by breadth come to the same list. -/
import Derived.Test.YtcljocmblplhcaaPx10
import Derived.Test.YtcljocmblplhcaaPx5
import Derived.Test.YtcljocmblplhcaaSpecA
namespace Go.Proofs.Ytcljocmblplhcaa.Pl
open Go.RowKit Go.Proofs.Ytcljocmblplhcaa.P Go.Proofs.YtcljocmblplhcaaW.PrintWords Go.Proofs.YtcljocmblplhcaaW.PrintMore

/-! ### counting -/
theorem cnt_set {α : Type} (p : α → Bool) : ∀ (l : List α) (i : Nat) (x d : α), i < l.length → (l.set i x).countP p + (if p (l.getD i d) then 1 else 0) = l.countP p + (if p x then 1 else 0)
  | [], i, x, d, h => absurd h (by simp)
  | a :: l, 0, x, d, h => by simp [List.countP_cons]; omega
  | a :: l, i + 1, x, d, h => by
    have := cnt_set p l i x d (by simpa using h)
    simp only [List.set_cons_succ, List.countP_cons, List.getD_cons_succ]
    omega

/-- A list of the distances to t: -1 where there is no walk. -/
def IsDist (g : List (List Int)) (t : Nat) (d : List Int) : Prop := d.length = g.length ∧ ∀ v : Nat, v < g.length → (rd d (v : Int) = -1 ∧ ¬ R g v t) ∨ ∃ k : Nat, rd d (v : Int) = (k : Int) ∧ Near g k v t
theorem IsDist.uniq {g : List (List Int)} {t : Nat} {a b : List Int} (h : IsDist g t a) (k : IsDist g t b) : a = b := by
  refine ext_rd (h.1.trans k.1.symm) (fun i hi => ?_)
  have hi' : i < g.length := by rw [← h.1]; exact hi
  rcases h.2 i hi' with ⟨h1, h2⟩ | ⟨m, h1, h2⟩ <;> rcases k.2 i hi' with ⟨k1, k2⟩ | ⟨m', k1, k2⟩
  · rw [h1, k1]
  · exact absurd ⟨_, k2.1⟩ h2
  · exact absurd ⟨_, h2.1⟩ k2
  · rw [h1, k1, h2.uniq k2]

section
variable {g : List (List Int)} {t : Nat}

/-! ### the reference's rounds -/
def Dk (g : List (List Int)) (t k : Nat) (d : List Int) : Prop := d.length = g.length ∧ ∀ x : Nat, x < g.length → (∀ j : Nat, j ≤ k → Near g j x t → rd d (x : Int) = (j : Int)) ∧ (rd d (x : Int) = -1 ∨ ∃ j : Nat, j ≤ k ∧ rd d (x : Int) = (j : Int) ∧ Near g j x t)
/-- In round k, all rows below v done, of row v the columns below u. -/
def Dr (g : List (List Int)) (t k v u : Nat) (d : List Int) : Prop := d.length = g.length ∧ (∀ x : Nat, x < g.length → (∀ j : Nat, j ≤ k → Near g j x t → rd d (x : Int) = (j : Int)) ∧ (rd d (x : Int) = -1 ∨ ∃ j : Nat, j ≤ k + 1 ∧ rd d (x : Int) = (j : Int) ∧ Near g j x t) ∧ (x < v → Near g (k + 1) x t → rd d (x : Int) = ((k + 1 : Nat) : Int))) ∧ ((∃ w, w < u ∧ Ed g v w ∧ Near g k w t) → rd d (v : Int) ≠ -1)

theorem dist_col (hg : Few g) {tab : List (List Bool)} (ht : IsTab tab g.length (Ed g)) {k v : Nat} (hk : k < g.length) (hv : v < g.length) (u : Nat) (hu : u < g.length) (d : List Int) (h : Dr g t k v u d) :
    ∃ d', Dr g t k v (u + 1) d' ∧ ∀ r, Ev (fun f => petrinetref07_Distances.l3 f g tab d' (k : Int) (v : Int) ((u + 1 : Nat) : Int)) r → Ev (fun f => petrinetref07_Distances.l3 f g tab d (k : Int) (v : Int) (u : Int)) r := by
  obtain ⟨hl, hx, hc⟩ := h
  have g12 := hg.1
  obtain ⟨hr1, hr2⟩ := ht.2 v hv
  obtain ⟨hv1, hv2, hv3⟩ := hx v hv
  by_cases c1 : rd d (v : Int) < 0
  · by_cases c2 : (tab.getD v []).getD u false = true
    · have he := (hr2 u hu).1 c2
      by_cases c3 : rd d (u : Int) = (k : Int)
      · have nk : Near g k u t := by
          rcases (hx u hu).2.1 with h | ⟨j, _, h1, h2⟩
          · omega
          · have : j = k := by omega
            exact this ▸ h2
        have nv : Near g (k + 1) v t := ⟨⟨u, he, nk.1⟩, fun j hj hw => by
          obtain ⟨j', hj'⟩ := Near.get (g := g) (u := v) (t := t) ⟨j, hw⟩
          have : j' ≤ j := by
            rcases Nat.lt_or_ge j j' with h | h
            · exact absurd hw (hj'.2 j h)
            · exact h
          have := hv1 j' (by omega) hj'
          omega⟩
        refine ⟨d.set v ((k + 1 : Nat) : Int), ⟨by rw [List.length_set]; exact hl, fun x hxg => ?_, fun _ => ?_⟩, fun r h => Ev.step (fun f => ?_) h⟩
        · have e := rd_set d (v : Int) (x : Int) ((k + 1 : Nat) : Int) (by omega) (by omega) (by omega)
          rw [Int.toNat_natCast] at e
          rw [e]
          by_cases ex : x = v
          · subst ex
            rw [if_pos rfl]
            exact ⟨fun j hj hn => absurd (hn.uniq nv) (by omega), .inr ⟨k + 1, Nat.le_refl _, rfl, nv⟩, fun h => absurd h (Nat.lt_irrefl _)⟩
          · rw [if_neg (by omega)]
            exact hx x hxg
        · have e := rd_set d (v : Int) (v : Int) ((k + 1 : Nat) : Int) (by omega) (by omega) (by omega)
          rw [Int.toNat_natCast, if_pos rfl] at e
          rw [e]
          omega
        · simp only [petrinetref07_Distances.l3]
          rw [if_pos (by omega), if_pos (by omega), if_pos (by omega), if_pos c1, if_pos (by have := ht.1; omega), if_pos (by omega), rdB, if_pos (by omega), rdOf_nat, if_pos c2, if_pos (by omega), if_pos c3, wrap_up hk (by omega), wrap_up hu (by omega), Int.toNat_natCast]
      · refine ⟨d, ⟨hl, hx, fun ⟨w, hw, h1, h2⟩ => ?_⟩, fun r h => Ev.step (fun f => ?_) h⟩
        · by_cases e : w = u
          · subst e
            exact absurd ((hx w hu).1 k (Nat.le_refl _) h2) c3
          · exact hc ⟨w, by omega, h1, h2⟩
        · simp only [petrinetref07_Distances.l3]
          rw [if_pos (by omega), if_pos (by omega), if_pos (by omega), if_pos c1, if_pos (by have := ht.1; omega), if_pos (by omega), rdB, if_pos (by omega), rdOf_nat, if_pos c2, if_pos (by omega), if_neg c3, wrap_up hu (by omega)]
    · refine ⟨d, ⟨hl, hx, fun ⟨w, hw, h1, h2⟩ => ?_⟩, fun r h => Ev.step (fun f => ?_) h⟩
      · by_cases e : w = u
        · subst e
          exact absurd ((hr2 w hu).2 h1) c2
        · exact hc ⟨w, by omega, h1, h2⟩
      · simp only [petrinetref07_Distances.l3]
        rw [if_pos (by omega), if_pos (by omega), if_pos (by omega), if_pos c1, if_pos (by have := ht.1; omega), if_pos (by omega), rdB, if_pos (by omega), rdOf_nat, if_neg c2, wrap_up hu (by omega)]
  · refine ⟨d, ⟨hl, hx, fun _ => by omega⟩, fun r h => Ev.step (fun f => ?_) h⟩
    simp only [petrinetref07_Distances.l3]
    rw [if_pos (by omega), if_pos (by omega), if_pos (by omega), if_neg c1, wrap_up hu (by omega)]

theorem dist_row (hg : Few g) {tab : List (List Bool)} (ht : IsTab tab g.length (Ed g)) {k : Nat} (hk : k < g.length) (v : Nat) (hv : v < g.length) (d : List Int) (h : Dr g t k v 0 d) :
    ∃ d', Dr g t k (v + 1) 0 d' ∧ ∀ r, Ev (fun f => petrinetref07_Distances.l2 f g tab d' (k : Int) ((v + 1 : Nat) : Int)) r → Ev (fun f => petrinetref07_Distances.l2 f g tab d (k : Int) (v : Int)) r := by
  have g12 := hg.1
  obtain ⟨d', ⟨hl, hx, hc⟩, hk'⟩ := Ev_for (l := fun f (d : List Int) u => petrinetref07_Distances.l3 f g tab d (k : Int) (v : Int) u) (n := g.length) (inv := fun u d => Dr g t k v u d) (fun u d hu h => dist_col hg ht hk hv u hu d h) (Nat.zero_le _) h
  refine ⟨d', ⟨hl, fun x hxg => ⟨(hx x hxg).1, (hx x hxg).2.1, fun hxv hn => ?_⟩, fun ⟨w, hw, _⟩ => absurd hw (Nat.not_lt_zero _)⟩, fun r h => Ev.step (f := fun f => petrinetref07_Distances.l3 f g tab d (k : Int) (v : Int) 0) (fun f => ?_) (hk' r (Ev.step (fun f => ?_) h))⟩
  · by_cases e : x = v
    · subst e
      obtain ⟨w, h1, h2⟩ := hn.next
      have h3 := hc ⟨w, h1.2.1, h1, h2⟩
      rcases (hx x hxg).2.1 with h | ⟨j, _, h4, h5⟩
      · exact absurd h h3
      · rw [h4, h5.uniq hn]
    · exact (hx x hxg).2.2 (by omega) hn
  · simp only [petrinetref07_Distances.l2]
    rw [if_pos (by omega)]
  · simp only [petrinetref07_Distances.l3]
    rw [if_neg (by omega), wrap_up hv (by omega)]

theorem dist_round (hg : Few g) {tab : List (List Bool)} (ht : IsTab tab g.length (Ed g)) (k : Nat) (hk : k < g.length) (d : List Int) (h : Dk g t k d) :
    ∃ d', Dk g t (k + 1) d' ∧ ∀ r, Ev (fun f => petrinetref07_Distances.l1 f g tab d' ((k + 1 : Nat) : Int)) r → Ev (fun f => petrinetref07_Distances.l1 f g tab d (k : Int)) r := by
  have g12 := hg.1
  obtain ⟨d', ⟨hl, hx, _⟩, hk'⟩ := Ev_for (l := fun f (d : List Int) v => petrinetref07_Distances.l2 f g tab d (k : Int) v) (n := g.length) (inv := fun v d => Dr g t k v 0 d) (fun v d hv h => dist_row hg ht hk v hv d h) (Nat.zero_le _)
    (s := d) ⟨h.1, fun x hx => ⟨(h.2 x hx).1, (h.2 x hx).2.imp id (fun ⟨j, h1, h2⟩ => ⟨j, by omega, h2⟩), fun hx => absurd hx (Nat.not_lt_zero _)⟩, fun ⟨w, hw, _⟩ => absurd hw (Nat.not_lt_zero _)⟩
  refine ⟨d', ⟨hl, fun x hxg => ⟨fun j hj hn => ?_, (hx x hxg).2.1⟩⟩, fun r h => Ev.step (f := fun f => petrinetref07_Distances.l2 f g tab d (k : Int) 0) (fun f => ?_) (hk' r (Ev.step (fun f => ?_) h))⟩
  · by_cases e : j = k + 1
    · subst e
      exact (hx x hxg).2.2 hxg hn
    · exact (hx x hxg).1 j (by omega) hn
  · simp only [petrinetref07_Distances.l1]
    rw [if_pos (by omega)]
  · simp only [petrinetref07_Distances.l2]
    rw [if_neg (by omega), wrap_up hk (by omega)]

theorem refdist_ev (hg : Few g) (htg : t < g.length) : ∃ d, Ev (fun f => petrinetref07_Distances.f f g (t : Int)) d ∧ IsDist g t d := by
  have g12 := hg.1
  obtain ⟨tab, htab, ht⟩ := table_ev g hg
  obtain ⟨d0, ⟨hl0, h0⟩, hk0⟩ := Ev_for (l := fun f (d : List Int) v => petrinetref07_Distances.l0 f g (t : Int) tab d v) (n := g.length) (inv := fun v d => d.length = v ∧ ∀ x : Nat, x < v → rd d (x : Int) = -1)
    (fun v d hv ⟨hl, hx⟩ => ⟨d ++ [-1], ⟨by simp [hl], fun x hxv => by
      rw [rd_app _ _ _ (by omega)]
      by_cases e : (x : Int) = d.length
      · rw [if_pos e]
      · rw [if_neg e]; exact hx x (by omega)⟩, fun r h => Ev.step (fun f => by
        simp only [petrinetref07_Distances.l0]
        rw [if_pos (by omega), if_pos (by omega), wrap_up hv (by omega)]) h⟩) (Nat.zero_le _) (s := []) ⟨rfl, fun x hx => absurd hx (Nat.not_lt_zero _)⟩
  have n0 : Near g 0 t t := ⟨⟨rfl, htg⟩, fun j hj => absurd hj (Nat.not_lt_zero _)⟩
  obtain ⟨d, hd, hk⟩ := Ev_for (l := fun f (d : List Int) k => petrinetref07_Distances.l1 f g tab d k) (n := g.length) (inv := fun k d => Dk g t k d) (fun k d hk h => dist_round hg ht k hk d h) (Nat.zero_le _) (s := d0.set t 0)
    ⟨by rw [List.length_set, hl0], fun x hx => by
      have e := rd_set d0 (t : Int) (x : Int) 0 (by omega) (by omega) (by omega)
      rw [Int.toNat_natCast] at e
      rw [e]
      by_cases ex : x = t
      · subst ex
        rw [if_pos rfl]
        exact ⟨fun j hj hn => by rw [hn.uniq n0]; rfl, .inr ⟨0, Nat.le_refl _, rfl, n0⟩⟩
      · rw [if_neg (by omega)]
        exact ⟨fun j hj hn => by
          obtain rfl : j = 0 := by omega
          exact absurd hn.1.1 ex, .inl (h0 x hx)⟩⟩
  refine ⟨d, ?_, hd.1, fun v hv => ?_⟩
  · refine Ev.bind htab (hk0 d (Ev.step (f := fun f => petrinetref07_Distances.l1 f g tab (d0.set t 0) 0) (fun f => ?_) (hk d (Ev.one (fun f => ?_)))))
    · simp only [petrinetref07_Distances.l0]
      rw [if_neg (by omega), if_pos (by omega), if_pos (by omega), Int.toNat_natCast]
    · simp only [petrinetref07_Distances.l1]
      rw [if_neg (by omega)]
  · rcases (hd.2 v hv).2 with h | ⟨j, _, h1, h2⟩
    · refine .inl ⟨h, fun hr => ?_⟩
      obtain ⟨j, hn⟩ := Near.get hr
      have := (hd.2 v hv).1 j (by have := hn.lt; omega) hn
      omega
    · exact .inr ⟨j, h1, h2⟩
end
end Go.Proofs.Ytcljocmblplhcaa.Pl
