/- Plain lemmas: loops that count, lists read and written by whole numbers. -/
import Derived.Test.YtboonibkibhmhaaVWords
import Derived.Test.YtboonibkibhmhaaVMore
namespace Go.Proofs.Ytboonibkibhmhaa.Pl
open Go.RowKit Go.Proofs.YtboonibkibhmhaaW.PrintWords Go.Proofs.YtboonibkibhmhaaW.PrintMore

theorem wrap_ok {x : Int} (h0 : -9223372036854775808 ≤ x) (h1 : x ≤ 9223372036854775807) : wrap64 x = x := by unfold wrap64; omega
theorem wrap_up {i n : Nat} (h : i < n) (hn : n ≤ 9223372036854775807) : wrap64 ((i : Int) + 1) = ((i + 1 : Nat) : Int) := by rw [wrap_ok (by omega) (by omega)]; omega

theorem Ev.uniq {α : Type} {g : Nat → Option α} {a b : α} (h : Ev g a) (k : Ev g b) : a = b := by
  obtain ⟨K, h⟩ := h
  obtain ⟨L, k⟩ := k
  have h1 := h (max K L) (Nat.le_max_left _ _)
  rw [k (max K L) (Nat.le_max_right _ _)] at h1
  exact (Option.some.inj h1).symm
theorem Ev.some {α : Type} (r : α) : Ev (fun _ => Option.some r) r := ⟨0, fun _ _ => rfl⟩
theorem Ev.one {α : Type} {g : Nat → Option α} {r : α} (h : ∀ k, g (k + 1) = Option.some r) : Ev g r := Ev.step h (Ev.some r)

/-- A loop that counts up to n: what is kept. -/
theorem Ev_for {σ ρ : Type} {l : Nat → σ → Int → Option ρ} {n : Nat} {inv : Nat → σ → Prop}
    (step : ∀ (i : Nat) s, i < n → inv i s → ∃ s', inv (i + 1) s' ∧ ∀ r, Ev (fun k => l k s' ((i + 1 : Nat) : Int)) r → Ev (fun k => l k s (i : Int)) r)
    {i : Nat} (hi : i ≤ n) {s : σ} (hs : inv i s) : ∃ s', inv n s' ∧ ∀ r, Ev (fun k => l k s' (n : Int)) r → Ev (fun k => l k s (i : Int)) r := by
  obtain ⟨d, hd⟩ : ∃ d, n - i = d := ⟨_, rfl⟩
  induction d generalizing i s with
  | zero =>
    have : i = n := by omega
    subst this
    exact ⟨s, hs, fun r h => h⟩
  | succ d ih =>
    obtain ⟨s1, h1, k1⟩ := step i s (by omega) hs
    obtain ⟨s2, h2, k2⟩ := ih (by omega) h1 (by omega)
    exact ⟨s2, h2, fun r h => k1 r (k2 r h)⟩

/-- A loop that counts up to n and may end before: at each place it goes on, or ends with what is told. -/
theorem Ev_scan {ρ : Type} {l : Nat → Int → Option ρ} {n : Nat} {bad : Nat → Prop} {rb : ρ}
    (go : ∀ i : Nat, i < n → ¬ bad i → ∀ r, Ev (fun k => l k ((i + 1 : Nat) : Int)) r → Ev (fun k => l k (i : Int)) r)
    (stop : ∀ i : Nat, i < n → bad i → Ev (fun k => l k (i : Int)) rb) {i : Nat} (hi : i ≤ n) :
    (∃ j, i ≤ j ∧ j < n ∧ bad j ∧ (∀ m, i ≤ m → m < j → ¬ bad m) ∧ Ev (fun k => l k (i : Int)) rb) ∨ ((∀ j, i ≤ j → j < n → ¬ bad j) ∧ ∀ r, Ev (fun k => l k (n : Int)) r → Ev (fun k => l k (i : Int)) r) := by
  obtain ⟨d, hd⟩ : ∃ d, n - i = d := ⟨_, rfl⟩
  induction d generalizing i with
  | zero =>
    have : i = n := by omega
    subst this
    exact .inr ⟨fun j h1 h2 => by omega, fun r h => h⟩
  | succ d ih =>
    by_cases hb : bad i
    · exact .inl ⟨i, Nat.le_refl _, by omega, hb, fun m h1 h2 => by omega, stop i (by omega) hb⟩
    · rcases ih (i := i + 1) (by omega) (by omega) with ⟨j, h1, h2, h3, h4, h5⟩ | ⟨h1, h2⟩
      · refine .inl ⟨j, by omega, h2, h3, fun m m1 m2 => ?_, go i (by omega) hb _ h5⟩
        by_cases hm : m = i
        · subst hm; exact hb
        · exact h4 m (by omega) m2
      · refine .inr ⟨fun j j1 j2 => ?_, fun r h => go i (by omega) hb r (h2 r h)⟩
        by_cases hm : j = i
        · subst hm; exact hb
        · exact h1 j (by omega) j2

/-- The least of those below n that have a property, if there is one. -/
theorem least_or (p : Nat → Prop) : ∀ n : Nat, (∃ v, v < n ∧ p v ∧ ∀ w, w < v → ¬ p w) ∨ ∀ v, v < n → ¬ p v
  | 0 => .inr fun v h => absurd h (Nat.not_lt_zero _)
  | n + 1 => by
    rcases least_or p n with ⟨v, h1, h2, h3⟩ | h
    · exact .inl ⟨v, by omega, h2, h3⟩
    · by_cases hp : p n
      · exact .inl ⟨n, by omega, hp, h⟩
      · refine .inr fun v hv => ?_
        by_cases e : v = n
        · rw [e]; exact hp
        · exact h v (by omega)

section
variable {α : Type}
theorem rd_nat (xs : List Int) (i : Nat) : rd xs (i : Int) = xs.getD i 0 := by simp [rd]
theorem rdOf_nat (d : α) (xs : List α) (i : Nat) : rdOf d xs (i : Int) = xs.getD i d := by simp [rdOf]
theorem getD_set (xs : List α) (i j : Nat) (x d : α) (h : i < xs.length) : (xs.set i x).getD j d = if j = i then x else xs.getD j d := by
  simp only [List.getD_eq_getElem?_getD, List.getElem?_set]
  by_cases e : i = j
  · subst e; simp [h]
  · simp [e, Ne.symm e]
theorem rdOf_set (d : α) (xs : List α) (i j : Int) (x : α) (h0 : 0 ≤ i) (h1 : i < xs.length) (j0 : 0 ≤ j) : rdOf d (xs.set i.toNat x) j = if j = i then x else rdOf d xs j := by
  unfold rdOf
  rw [getD_set _ _ _ _ _ (by omega)]
  by_cases e : j = i
  · subst e; simp
  · rw [if_neg e, if_neg (by omega)]
theorem rd_set (xs : List Int) (i j x : Int) (h0 : 0 ≤ i) (h1 : i < xs.length) (j0 : 0 ≤ j) : rd (xs.set i.toNat x) j = if j = i then x else rd xs j := rdOf_set (0 : Int) xs i j x h0 h1 j0
theorem rdOf_app (d : α) (xs : List α) (x : α) (j : Int) (j0 : 0 ≤ j) : rdOf d (xs ++ [x]) j = if j = xs.length then x else rdOf d xs j := by
  unfold rdOf
  simp only [List.getD_eq_getElem?_getD, List.getElem?_append]
  by_cases e : j = xs.length
  · subst e; simp
  · rw [if_neg e]
    by_cases h : j.toNat < xs.length
    · simp [h]
    · rw [if_neg h]
      have h2 : ¬ j.toNat - xs.length < 1 := by omega
      simp [List.getElem?_eq_none (show ([x] : List α).length ≤ j.toNat - xs.length by simp; omega), List.getElem?_eq_none (show xs.length ≤ j.toNat by omega)]
theorem rd_app (xs : List Int) (x j : Int) (j0 : 0 ≤ j) : rd (xs ++ [x]) j = if j = xs.length then x else rd xs j := rdOf_app (0 : Int) xs x j j0
theorem rdOf_rep (d x : α) (n : Nat) (j : Int) (j0 : 0 ≤ j) (j1 : j < n) : rdOf d (List.replicate n x) j = x := by
  unfold rdOf
  rw [List.getD_eq_getElem?_getD, List.getElem?_replicate, if_pos (by omega)]
  rfl
theorem rd_rep (x : Int) (n : Nat) (j : Int) (j0 : 0 ≤ j) (j1 : j < n) : rd (List.replicate n x) j = x := rdOf_rep 0 x n j j0 j1
theorem rd_mem {xs : List Int} {i : Int} (h0 : 0 ≤ i) (h1 : i < xs.length) : rd xs i ∈ xs := by
  unfold rd
  rw [List.getD_eq_getElem?_getD, List.getElem?_eq_getElem (show i.toNat < xs.length by omega)]
  exact List.getElem_mem _
theorem mem_rd {xs : List Int} {x : Int} (h : x ∈ xs) : ∃ i : Nat, i < xs.length ∧ rd xs (i : Int) = x := by
  obtain ⟨i, hi, he⟩ := List.getElem_of_mem h
  exact ⟨i, hi, by rw [rd_nat, List.getD_eq_getElem?_getD, List.getElem?_eq_getElem hi]; exact he⟩
theorem ext_rd {a b : List Int} (hl : a.length = b.length) (h : ∀ i : Nat, i < a.length → rd a (i : Int) = rd b (i : Int)) : a = b := by
  refine List.ext_getElem hl (fun i h1 h2 => ?_)
  have := h i h1
  rw [rd_nat, rd_nat, List.getD_eq_getElem?_getD, List.getD_eq_getElem?_getD, List.getElem?_eq_getElem h1, List.getElem?_eq_getElem h2] at this
  exact this
theorem ext_rdOf (d : α) {a b : List α} (hl : a.length = b.length) (h : ∀ i : Nat, i < a.length → rdOf d a (i : Int) = rdOf d b (i : Int)) : a = b := by
  refine List.ext_getElem hl (fun i h1 h2 => ?_)
  have := h i h1
  rw [rdOf_nat, rdOf_nat, List.getD_eq_getElem?_getD, List.getD_eq_getElem?_getD, List.getElem?_eq_getElem h1, List.getElem?_eq_getElem h2] at this
  exact this
end
end Go.Proofs.Ytboonibkibhmhaa.Pl
