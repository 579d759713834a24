/- Plain graph theory over lists of successors: walks by length, walks through the first m vertices, shortest distances. -/
import Derived.Test.YtcljocmblplhcaaPlain
namespace Go.Proofs.Ytcljocmblplhcaa.Pl
open Go.RowKit Go.Proofs.YtcljocmblplhcaaW.PrintWords Go.Proofs.YtcljocmblplhcaaW.PrintMore

/-- An edge between vertices. -/
def Ed (g : List (List Int)) (u v : Nat) : Prop := u < g.length ∧ v < g.length ∧ (v : Int) ∈ g.getD u []
/-- A walk of length k. -/
def Wk (g : List (List Int)) : Nat → Nat → Nat → Prop
  | 0, u, v => u = v ∧ u < g.length
  | k + 1, u, v => ∃ w, Ed g u w ∧ Wk g k w v
def R (g : List (List Int)) (u v : Nat) : Prop := ∃ k, Wk g k u v
def Rp (g : List (List Int)) (u v : Nat) : Prop := ∃ k, Wk g (k + 1) u v

section
variable {g : List (List Int)}
theorem Wk.lt : ∀ {k u v}, Wk g k u v → u < g.length ∧ v < g.length
  | 0, u, v, h => by obtain ⟨rfl, h⟩ := h; exact ⟨h, h⟩
  | k + 1, u, v, h => by obtain ⟨w, h1, h2⟩ := h; exact ⟨h1.1, (Wk.lt h2).2⟩
theorem Wk.add : ∀ {a b u v w}, Wk g a u v → Wk g b v w → Wk g (a + b) u w
  | 0, b, u, v, w, h, k => by obtain ⟨rfl, _⟩ := h; rw [Nat.zero_add]; exact k
  | a + 1, b, u, v, w, h, k => by
    obtain ⟨x, h1, h2⟩ := h
    rw [show a + 1 + b = (a + b) + 1 by omega]
    exact ⟨x, h1, Wk.add h2 k⟩
theorem Wk.one {u v : Nat} (h : Ed g u v) : Wk g 1 u v := ⟨v, h, rfl, h.2.1⟩
theorem Wk.split : ∀ {a b u w}, Wk g (a + b) u w → ∃ v, Wk g a u v ∧ Wk g b v w
  | 0, b, u, w, h => by rw [Nat.zero_add] at h; exact ⟨u, ⟨rfl, h.lt.1⟩, h⟩
  | a + 1, b, u, w, h => by
    rw [show a + 1 + b = (a + b) + 1 by omega] at h
    obtain ⟨x, h1, h2⟩ := h
    obtain ⟨v, h3, h4⟩ := Wk.split h2
    exact ⟨v, ⟨x, h1, h3⟩, h4⟩
theorem Wk.snoc {k u v : Nat} (h : Wk g (k + 1) u v) : ∃ w, Wk g k u w ∧ Ed g w v := by
  obtain ⟨w, h1, x, h2, h3, _⟩ := Wk.split h
  exact ⟨w, h1, h3 ▸ h2⟩
theorem R.refl {u : Nat} (h : u < g.length) : R g u u := ⟨0, rfl, h⟩
theorem R.trans {u v w : Nat} (h : R g u v) (k : R g v w) : R g u w := by
  obtain ⟨a, h⟩ := h
  obtain ⟨b, k⟩ := k
  exact ⟨a + b, h.add k⟩
theorem R.edge {u v : Nat} (h : Ed g u v) : R g u v := ⟨1, Wk.one h⟩
theorem R.lt {u v : Nat} (h : R g u v) : u < g.length ∧ v < g.length := by obtain ⟨k, h⟩ := h; exact h.lt
theorem Rp.toR {u v : Nat} (h : Rp g u v) : R g u v := by obtain ⟨k, h⟩ := h; exact ⟨_, h⟩
theorem R_iff {u v : Nat} : R g u v ↔ (u = v ∧ u < g.length) ∨ Rp g u v := by
  constructor
  · rintro ⟨k, h⟩
    cases k with
    | zero => exact .inl h
    | succ k => exact .inr ⟨k, h⟩
  · rintro (⟨rfl, h⟩ | h)
    · exact R.refl h
    · exact h.toR
theorem Rp_iff {u v : Nat} : Rp g u v ↔ ∃ w, Ed g u w ∧ R g w v := by
  constructor
  · rintro ⟨k, w, h1, h2⟩
    exact ⟨w, h1, k, h2⟩
  · rintro ⟨w, h1, k, h2⟩
    exact ⟨k, w, h1, h2⟩
theorem Rp.trans {u v w : Nat} (h : Rp g u v) (k : Rp g v w) : Rp g u w := by
  obtain ⟨a, h⟩ := h
  obtain ⟨b, k⟩ := k
  refine ⟨a + 1 + b, ?_⟩
  have := h.add k
  rwa [show a + 1 + (b + 1) = a + 1 + b + 1 by omega] at this

/-- A set that holds the start and with each vertex its successors holds all that can be reached. -/
theorem R.closed {p : Nat → Prop} (hs : ∀ u v, p u → Ed g u v → p v) {u v : Nat} (h : R g u v) (hu : p u) : p v := by
  obtain ⟨k, h⟩ := h
  induction k generalizing u with
  | zero => obtain ⟨rfl, _⟩ := h; exact hu
  | succ k ih => obtain ⟨w, h1, h2⟩ := h; exact ih (hs u w hu h1) h2

/-! ### through the first m vertices -/
inductive Via (g : List (List Int)) (m : Nat) : Nat → Nat → Prop
  | edge {u v : Nat} : Ed g u v → Via g m u v
  | join {u w v : Nat} : w < m → Via g m u w → Via g m w v → Via g m u v
theorem Via.up {m u v : Nat} (h : Via g m u v) : Via g (m + 1) u v := by
  induction h with
  | edge h => exact .edge h
  | join hw _ _ h1 h2 => exact .join (by omega) h1 h2
theorem Via.succ {m u v : Nat} : Via g (m + 1) u v ↔ Via g m u v ∨ (Via g m u m ∧ Via g m m v) := by
  constructor
  · intro h
    induction h with
    | edge h => exact .inl (.edge h)
    | @join u w v hw _ _ h1 h2 =>
      by_cases e : w = m
      · subst e
        have a1 : Via g w u w := h1.elim id (fun h => h.1)
        have a2 : Via g w w v := h2.elim id (fun h => h.2)
        exact .inr ⟨a1, a2⟩
      · have hw' : w < m := by omega
        rcases h1 with h1 | h1 <;> rcases h2 with h2 | h2
        · exact .inl (.join hw' h1 h2)
        · exact .inr ⟨.join hw' h1 h2.1, h2.2⟩
        · exact .inr ⟨h1.1, .join hw' h1.2 h2⟩
        · exact .inr ⟨h1.1, h2.2⟩
  · rintro (h | ⟨h1, h2⟩)
    · exact h.up
    · exact .join (Nat.lt_succ_self _) h1.up h2.up
theorem Via.zero {u v : Nat} : Via g 0 u v ↔ Ed g u v := by
  constructor
  · intro h
    cases h with
    | edge h => exact h
    | join hw _ _ => omega
  · exact .edge
theorem Via.all {u v : Nat} : Via g g.length u v ↔ Rp g u v := by
  constructor
  · intro h
    induction h with
    | edge h => exact ⟨0, Wk.one h⟩
    | join _ _ _ h1 h2 => exact h1.trans h2
  · rintro ⟨k, h⟩
    induction k generalizing u with
    | zero => obtain ⟨w, h1, rfl, _⟩ := h; exact .edge h1
    | succ k ih => obtain ⟨w, h1, h2⟩ := h; exact .join h1.2.1 (.edge h1) (ih h2)

/-! ### a list without repetitions below n has at most n elements -/
theorem nodup_le : ∀ (n : Nat) (l : List Nat), l.Nodup → (∀ x ∈ l, x < n) → l.length ≤ n
  | 0, l, _, h => by
    cases l with
    | nil => simp
    | cons a l => exact absurd (h a (by simp)) (by omega)
  | n + 1, l, hd, h => by
    by_cases hn : n ∈ l
    · have h1 := nodup_le n (l.erase n) (hd.erase n) (fun x hx => by
        have h2 := h x (List.mem_of_mem_erase hx)
        have h3 : x ≠ n := fun e => by subst e; exact (List.Nodup.not_mem_erase hd) hx
        omega)
      rw [List.length_erase_of_mem hn] at h1
      omega
    · have := nodup_le n l hd (fun x hx => by
        have h2 := h x hx
        have h3 : x ≠ n := fun e => hn (e ▸ hx)
        omega)
      omega

/-! ### shortest distances to a vertex -/
def Near (g : List (List Int)) (k u t : Nat) : Prop := Wk g k u t ∧ ∀ j, j < k → ¬ Wk g j u t
theorem Near.get {u t : Nat} (h : R g u t) : ∃ k, Near g k u t := by
  obtain ⟨k, h⟩ := h
  induction k using Nat.strongRecOn with
  | _ k ih =>
    by_cases e : ∃ j, j < k ∧ Wk g j u t
    · obtain ⟨j, h1, h2⟩ := e
      exact ih j h1 h2
    · exact ⟨k, h, fun j h1 h2 => e ⟨j, h1, h2⟩⟩
theorem Near.uniq {a b u t : Nat} (h : Near g a u t) (k : Near g b u t) : a = b := by
  rcases Nat.lt_trichotomy a b with h1 | h1 | h1
  · exact absurd h.1 (k.2 a h1)
  · exact h1
  · exact absurd k.1 (h.2 b h1)
theorem Near.next {k u t : Nat} (h : Near g (k + 1) u t) : ∃ w, Ed g u w ∧ Near g k w t := by
  obtain ⟨⟨w, h1, h2⟩, h3⟩ := h
  exact ⟨w, h1, h2, fun j hj hw => h3 (j + 1) (by omega) ⟨w, h1, hw⟩⟩
/-- On the way there is a vertex at each smaller distance. -/
theorem Near.down {t : Nat} : ∀ {k u : Nat}, Near g k u t → ∃ l : List Nat, l.Nodup ∧ l.length = k + 1 ∧ ∀ x ∈ l, ∃ j, j ≤ k ∧ Near g j x t
  | 0, u, h => ⟨[u], by simp, rfl, fun x hx => by simp at hx; subst hx; exact ⟨0, Nat.le_refl _, h⟩⟩
  | k + 1, u, h => by
    obtain ⟨w, _, hw⟩ := h.next
    obtain ⟨l, h1, h2, h3⟩ := Near.down hw
    refine ⟨u :: l, List.nodup_cons.2 ⟨fun hu => ?_, h1⟩, by simp [h2], fun x hx => ?_⟩
    · obtain ⟨j, hj, hn⟩ := h3 u hu
      have := hn.uniq h
      omega
    · rcases List.mem_cons.1 hx with rfl | hx
      · exact ⟨k + 1, Nat.le_refl _, h⟩
      · obtain ⟨j, hj, hn⟩ := h3 x hx
        exact ⟨j, by omega, hn⟩
theorem Near.lt {k u t : Nat} (h : Near g k u t) : k < g.length := by
  obtain ⟨l, h1, h2, h3⟩ := h.down
  have := nodup_le g.length l h1 (fun x hx => by obtain ⟨j, _, hn⟩ := h3 x hx; exact hn.1.lt.1)
  omega
end
end Go.Proofs.Ytcljocmblplhcaa.Pl
