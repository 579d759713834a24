/- The plain law of NetKnows: for every net the law's function answers true, with rounds enough. -/
-- MERGED: the plain texts that it needs, in one
import Derived.Test.YtboonibkibhmhaaPx31
import Derived.Test.YtboonibkibhmhaaPx14
import Derived.Test.YtboonibkibhmhaaVWords
import Derived.Test.YtboonibkibhmhaaVMore
import Derived.Test.YtboonibkibhmhaaPx4
import Derived.Test.YtboonibkibhmhaaPx8
import Derived.Laws.Strings
import Derived.WideShapes
import Derived.Test.YtboonibkibhmhaaPx6
/- Plain lemmas: loops that count, lists read and written by whole numbers. -/
namespace Go.Proofs.Ytboonibkibhmhaa.Pl
open Go.RowKit Go.Proofs.YtboonibkibhmhaaW.PrintWords Go.Proofs.YtboonibkibhmhaaW.PrintMore

theorem wrap_ok {x : Int} (h0 : -9223372036854775808 ≤ x) (h1 : x ≤ 9223372036854775807) : wrap64 x = x := by unfold wrap64; omega
theorem wrap_up {i n : Nat} (h : i < n) (hn : n ≤ 9223372036854775807) : wrap64 ((i : Int) + 1) = ((i + 1 : Nat) : Int) := by rw [wrap_ok (by omega) (by omega)]; omega

theorem Ev.uniq {α : Type} {g : Nat → Option α} {a b : α} (h : Ev g a) (k : Ev g b) : a = b := by
  obtain ⟨K, h⟩ := h
  obtain ⟨L, k⟩ := k
  have h1 := h (max K L) (Nat.le_max_left _ _)
  rw [k (max K L) (Nat.le_max_right _ _)] at h1
  exact (Option.some.inj h1).symm
theorem Ev.some {α : Type} (r : α) : Ev (fun _ => Option.some r) r := ⟨0, fun _ _ => rfl⟩
theorem Ev.one {α : Type} {g : Nat → Option α} {r : α} (h : ∀ k, g (k + 1) = Option.some r) : Ev g r := Ev.step h (Ev.some r)

/-- A loop that counts up to n: what is kept. -/
theorem Ev_for {σ ρ : Type} {l : Nat → σ → Int → Option ρ} {n : Nat} {inv : Nat → σ → Prop}
    (step : ∀ (i : Nat) s, i < n → inv i s → ∃ s', inv (i + 1) s' ∧ ∀ r, Ev (fun k => l k s' ((i + 1 : Nat) : Int)) r → Ev (fun k => l k s (i : Int)) r)
    {i : Nat} (hi : i ≤ n) {s : σ} (hs : inv i s) : ∃ s', inv n s' ∧ ∀ r, Ev (fun k => l k s' (n : Int)) r → Ev (fun k => l k s (i : Int)) r := by
  obtain ⟨d, hd⟩ : ∃ d, n - i = d := ⟨_, rfl⟩
  induction d generalizing i s with
  | zero =>
    have : i = n := by omega
    subst this
    exact ⟨s, hs, fun r h => h⟩
  | succ d ih =>
    obtain ⟨s1, h1, k1⟩ := step i s (by omega) hs
    obtain ⟨s2, h2, k2⟩ := ih (by omega) h1 (by omega)
    exact ⟨s2, h2, fun r h => k1 r (k2 r h)⟩

/-- A loop that counts up to n and may end before: at each place it goes on, or ends with what is told. -/
theorem Ev_scan {ρ : Type} {l : Nat → Int → Option ρ} {n : Nat} {bad : Nat → Prop} {rb : ρ}
    (go : ∀ i : Nat, i < n → ¬ bad i → ∀ r, Ev (fun k => l k ((i + 1 : Nat) : Int)) r → Ev (fun k => l k (i : Int)) r)
    (stop : ∀ i : Nat, i < n → bad i → Ev (fun k => l k (i : Int)) rb) {i : Nat} (hi : i ≤ n) :
    (∃ j, i ≤ j ∧ j < n ∧ bad j ∧ (∀ m, i ≤ m → m < j → ¬ bad m) ∧ Ev (fun k => l k (i : Int)) rb) ∨ ((∀ j, i ≤ j → j < n → ¬ bad j) ∧ ∀ r, Ev (fun k => l k (n : Int)) r → Ev (fun k => l k (i : Int)) r) := by
  obtain ⟨d, hd⟩ : ∃ d, n - i = d := ⟨_, rfl⟩
  induction d generalizing i with
  | zero =>
    have : i = n := by omega
    subst this
    exact .inr ⟨fun j h1 h2 => by omega, fun r h => h⟩
  | succ d ih =>
    by_cases hb : bad i
    · exact .inl ⟨i, Nat.le_refl _, by omega, hb, fun m h1 h2 => by omega, stop i (by omega) hb⟩
    · rcases ih (i := i + 1) (by omega) (by omega) with ⟨j, h1, h2, h3, h4, h5⟩ | ⟨h1, h2⟩
      · refine .inl ⟨j, by omega, h2, h3, fun m m1 m2 => ?_, go i (by omega) hb _ h5⟩
        by_cases hm : m = i
        · subst hm; exact hb
        · exact h4 m (by omega) m2
      · refine .inr ⟨fun j j1 j2 => ?_, fun r h => go i (by omega) hb r (h2 r h)⟩
        by_cases hm : j = i
        · subst hm; exact hb
        · exact h1 j (by omega) j2

/-- The least of those below n that have a property, if there is one. -/
theorem least_or (p : Nat → Prop) : ∀ n : Nat, (∃ v, v < n ∧ p v ∧ ∀ w, w < v → ¬ p w) ∨ ∀ v, v < n → ¬ p v
  | 0 => .inr fun v h => absurd h (Nat.not_lt_zero _)
  | n + 1 => by
    rcases least_or p n with ⟨v, h1, h2, h3⟩ | h
    · exact .inl ⟨v, by omega, h2, h3⟩
    · by_cases hp : p n
      · exact .inl ⟨n, by omega, hp, h⟩
      · refine .inr fun v hv => ?_
        by_cases e : v = n
        · rw [e]; exact hp
        · exact h v (by omega)

section
variable {α : Type}
theorem rd_nat (xs : List Int) (i : Nat) : rd xs (i : Int) = xs.getD i 0 := by simp [rd]
theorem rdOf_nat (d : α) (xs : List α) (i : Nat) : rdOf d xs (i : Int) = xs.getD i d := by simp [rdOf]
theorem getD_set (xs : List α) (i j : Nat) (x d : α) (h : i < xs.length) : (xs.set i x).getD j d = if j = i then x else xs.getD j d := by
  simp only [List.getD_eq_getElem?_getD, List.getElem?_set]
  by_cases e : i = j
  · subst e; simp [h]
  · simp [e, Ne.symm e]
theorem rdOf_set (d : α) (xs : List α) (i j : Int) (x : α) (h0 : 0 ≤ i) (h1 : i < xs.length) (j0 : 0 ≤ j) : rdOf d (xs.set i.toNat x) j = if j = i then x else rdOf d xs j := by
  unfold rdOf
  rw [getD_set _ _ _ _ _ (by omega)]
  by_cases e : j = i
  · subst e; simp
  · rw [if_neg e, if_neg (by omega)]
theorem rd_set (xs : List Int) (i j x : Int) (h0 : 0 ≤ i) (h1 : i < xs.length) (j0 : 0 ≤ j) : rd (xs.set i.toNat x) j = if j = i then x else rd xs j := rdOf_set (0 : Int) xs i j x h0 h1 j0
theorem rdOf_app (d : α) (xs : List α) (x : α) (j : Int) (j0 : 0 ≤ j) : rdOf d (xs ++ [x]) j = if j = xs.length then x else rdOf d xs j := by
  unfold rdOf
  simp only [List.getD_eq_getElem?_getD, List.getElem?_append]
  by_cases e : j = xs.length
  · subst e; simp
  · rw [if_neg e]
    by_cases h : j.toNat < xs.length
    · simp [h]
    · rw [if_neg h]
      have h2 : ¬ j.toNat - xs.length < 1 := by omega
      simp [List.getElem?_eq_none (show ([x] : List α).length ≤ j.toNat - xs.length by simp; omega), List.getElem?_eq_none (show xs.length ≤ j.toNat by omega)]
theorem rd_app (xs : List Int) (x j : Int) (j0 : 0 ≤ j) : rd (xs ++ [x]) j = if j = xs.length then x else rd xs j := rdOf_app (0 : Int) xs x j j0
theorem rdOf_rep (d x : α) (n : Nat) (j : Int) (j0 : 0 ≤ j) (j1 : j < n) : rdOf d (List.replicate n x) j = x := by
  unfold rdOf
  rw [List.getD_eq_getElem?_getD, List.getElem?_replicate, if_pos (by omega)]
  rfl
theorem rd_rep (x : Int) (n : Nat) (j : Int) (j0 : 0 ≤ j) (j1 : j < n) : rd (List.replicate n x) j = x := rdOf_rep 0 x n j j0 j1
theorem rd_mem {xs : List Int} {i : Int} (h0 : 0 ≤ i) (h1 : i < xs.length) : rd xs i ∈ xs := by
  unfold rd
  rw [List.getD_eq_getElem?_getD, List.getElem?_eq_getElem (show i.toNat < xs.length by omega)]
  exact List.getElem_mem _
theorem mem_rd {xs : List Int} {x : Int} (h : x ∈ xs) : ∃ i : Nat, i < xs.length ∧ rd xs (i : Int) = x := by
  obtain ⟨i, hi, he⟩ := List.getElem_of_mem h
  exact ⟨i, hi, by rw [rd_nat, List.getD_eq_getElem?_getD, List.getElem?_eq_getElem hi]; exact he⟩
theorem ext_rd {a b : List Int} (hl : a.length = b.length) (h : ∀ i : Nat, i < a.length → rd a (i : Int) = rd b (i : Int)) : a = b := by
  refine List.ext_getElem hl (fun i h1 h2 => ?_)
  have := h i h1
  rw [rd_nat, rd_nat, List.getD_eq_getElem?_getD, List.getD_eq_getElem?_getD, List.getElem?_eq_getElem h1, List.getElem?_eq_getElem h2] at this
  exact this
theorem ext_rdOf (d : α) {a b : List α} (hl : a.length = b.length) (h : ∀ i : Nat, i < a.length → rdOf d a (i : Int) = rdOf d b (i : Int)) : a = b := by
  refine List.ext_getElem hl (fun i h1 h2 => ?_)
  have := h i h1
  rw [rdOf_nat, rdOf_nat, List.getD_eq_getElem?_getD, List.getD_eq_getElem?_getD, List.getElem?_eq_getElem h1, List.getElem?_eq_getElem h2] at this
  exact this
end
end Go.Proofs.Ytboonibkibhmhaa.Pl
/- Plain lemmas: loops that count through a list, the first place that ends them. -/
namespace Go.Proofs.Ytboonibkibhmhaa.Pl
open Go.RowKit Go.Proofs.YtboonibkibhmhaaW.PrintWords Go.Proofs.YtboonibkibhmhaaW.PrintMore

/-- The first answer of p from place i on, through d places; e if there is none. -/
def firstOr {ρ : Type} (p : Nat → Option ρ) (e : ρ) : Nat → Nat → ρ
  | _, 0 => e
  | i, d + 1 => match p i with | some r => r | none => firstOr p e (i + 1) d
theorem firstOr_congr {ρ : Type} {p q : Nat → Option ρ} {e : ρ} : ∀ (d i : Nat), (∀ j, i ≤ j → j < i + d → p j = q j) → firstOr p e i d = firstOr q e i d
  | 0, _, _ => rfl
  | d + 1, i, h => by
    unfold firstOr
    rw [h i (Nat.le_refl _) (by omega)]
    cases q i with
    | some r => rfl
    | none => exact firstOr_congr d (i + 1) (fun j h1 h2 => h j (by omega) (by omega))
theorem firstOr_cases {ρ : Type} (p : Nat → Option ρ) (e : ρ) : ∀ (d i : Nat), (firstOr p e i d = e ∧ ∀ j, i ≤ j → j < i + d → p j = none) ∨ ∃ j, i ≤ j ∧ j < i + d ∧ p j = some (firstOr p e i d) ∧ ∀ m, i ≤ m → m < j → p m = none
  | 0, i => .inl ⟨rfl, fun j h1 h2 => by omega⟩
  | d + 1, i => by
    unfold firstOr
    cases h : p i with
    | some r => exact .inr ⟨i, Nat.le_refl _, by omega, h, fun m h1 h2 => by omega⟩
    | none =>
      rcases firstOr_cases p e d (i + 1) with ⟨h1, h2⟩ | ⟨j, h1, h2, h3, h4⟩
      · refine .inl ⟨h1, fun j j1 j2 => ?_⟩
        by_cases hj : j = i
        · rw [hj]; exact h
        · exact h2 j (by omega) (by omega)
      · refine .inr ⟨j, by omega, by omega, h3, fun m m1 m2 => ?_⟩
        by_cases hm : m = i
        · rw [hm]; exact h
        · exact h4 m (by omega) m2
theorem firstOr_all {ρ : Type} {p : Nat → Option ρ} {e : ρ} : ∀ {d i : Nat}, (∀ j, i ≤ j → j < i + d → p j = none) → firstOr p e i d = e
  | 0, _, _ => rfl
  | d + 1, i, h => by
    unfold firstOr
    rw [h i (Nat.le_refl _) (by omega)]
    exact firstOr_all (fun j h1 h2 => h j (by omega) (by omega))
theorem firstOr_at {ρ : Type} {p : Nat → Option ρ} {e r : ρ} : ∀ {d i : Nat} (j : Nat), i ≤ j → j < i + d → p j = some r → (∀ m, i ≤ m → m < j → p m = none) → firstOr p e i d = r
  | 0, _, _, h1, h2, _, _ => by omega
  | d + 1, i, j, h1, h2, h3, h4 => by
    unfold firstOr
    by_cases hj : j = i
    · subst hj; rw [h3]
    · rw [h4 i (Nat.le_refl _) (by omega)]
      exact firstOr_at j (by omega) (by omega) h3 (fun m m1 m2 => h4 m (by omega) m2)
/-- The first answer of p below n; e if there is none. -/
def first {ρ : Type} (p : Nat → Option ρ) (e : ρ) (n : Nat) : ρ := firstOr p e 0 n
theorem first_congr {ρ : Type} {p q : Nat → Option ρ} {e : ρ} {n : Nat} (h : ∀ j, j < n → p j = q j) : first p e n = first q e n := firstOr_congr n 0 (fun j _ h2 => h j (by omega))
theorem first_cases {ρ : Type} (p : Nat → Option ρ) (e : ρ) (n : Nat) : (first p e n = e ∧ ∀ j, j < n → p j = none) ∨ ∃ j, j < n ∧ p j = some (first p e n) ∧ ∀ m, m < j → p m = none := by
  rcases firstOr_cases p e n 0 with ⟨h1, h2⟩ | ⟨j, _, h2, h3, h4⟩
  · exact .inl ⟨h1, fun j h => h2 j (Nat.zero_le _) (by omega)⟩
  · exact .inr ⟨j, by omega, h3, fun m h => h4 m (Nat.zero_le _) h⟩
theorem first_all {ρ : Type} {p : Nat → Option ρ} {e : ρ} {n : Nat} (h : ∀ j, j < n → p j = none) : first p e n = e := firstOr_all (fun j _ h2 => h j (by omega))
theorem first_at {ρ : Type} {p : Nat → Option ρ} {e r : ρ} {n : Nat} (j : Nat) (h2 : j < n) (h3 : p j = some r) (h4 : ∀ m, m < j → p m = none) : first p e n = r := firstOr_at j (Nat.zero_le _) (by omega) h3 (fun m _ h => h4 m h)

/-- A loop that counts up to n and ends where p answers. -/
theorem Ev_firstFrom {ρ : Type} {L : Nat → Nat → Option ρ} {n : Nat} (p : Nat → Option ρ) {e : ρ}
    (go : ∀ i, i < n → p i = none → ∀ r, Ev (fun k => L k (i + 1)) r → Ev (fun k => L k i) r)
    (stop : ∀ i r, i < n → p i = some r → Ev (fun k => L k i) r) (fin : (∀ j, j < n → p j = none) → Ev (fun k => L k n) e) :
    ∀ (d i : Nat), i + d = n → (∀ j, j < i → p j = none) → Ev (fun k => L k i) (firstOr p e i d) := by
  intro d
  induction d with
  | zero => intro i hi hb; obtain rfl : i = n := by omega
            exact fin hb
  | succ d ih =>
    intro i hi hb
    unfold firstOr
    cases h : p i with
    | some r => exact stop i r (by omega) h
    | none => exact go i (by omega) h _ (ih (i + 1) (by omega) (fun j hj => by
        by_cases e : j = i
        · rw [e]; exact h
        · exact hb j (by omega)))
theorem Ev_first' {ρ : Type} {L : Nat → Nat → Option ρ} {n : Nat} (p : Nat → Option ρ) {e : ρ}
    (go : ∀ i, i < n → p i = none → ∀ r, Ev (fun k => L k (i + 1)) r → Ev (fun k => L k i) r)
    (stop : ∀ i r, i < n → p i = some r → Ev (fun k => L k i) r) (fin : (∀ j, j < n → p j = none) → Ev (fun k => L k n) e) : Ev (fun k => L k 0) (first p e n) :=
  Ev_firstFrom p go stop fin n 0 (by omega) (fun j h => by omega)
theorem Ev_first {ρ : Type} {L : Nat → Nat → Option ρ} {n : Nat} (p : Nat → Option ρ) {e : ρ}
    (go : ∀ i, i < n → p i = none → ∀ r, Ev (fun k => L k (i + 1)) r → Ev (fun k => L k i) r)
    (stop : ∀ i r, i < n → p i = some r → Ev (fun k => L k i) r) (fin : Ev (fun k => L k n) e) : Ev (fun k => L k 0) (first p e n) :=
  Ev_first' p go stop (fun _ => fin)
/-- A loop that counts up to n. -/
theorem Ev_up {ρ : Type} {L : Nat → Nat → Option ρ} {n : Nat} {r : ρ}
    (go : ∀ i, i < n → Ev (fun k => L k (i + 1)) r → Ev (fun k => L k i) r) (fin : Ev (fun k => L k n) r) : Ev (fun k => L k 0) r := by
  have h : ∀ d i, i + d = n → Ev (fun k => L k i) r := by
    intro d
    induction d with
    | zero => intro i hi; obtain rfl : i = n := by omega
              exact fin
    | succ d ih => intro i hi; exact go i (by omega) (ih (i + 1) (by omega))
  exact h n 0 (by omega)

theorem take_map_succ {α β : Type} (l : List α) (f : α → β) (z : α) {i : Nat} (h : i < l.length) : (l.take (i + 1)).map f = (l.take i).map f ++ [f (l.getD i z)] := by
  rw [List.take_succ_eq_append_getElem h, List.map_append, List.getD_eq_getElem?_getD, List.getElem?_eq_getElem h]
  rfl
theorem getD_mem {α : Type} (l : List α) (z : α) {i : Nat} (h : i < l.length) : l.getD i z ∈ l := by
  rw [List.getD_eq_getElem?_getD, List.getElem?_eq_getElem h]
  exact List.getElem_mem h
theorem filter_range_succ (q : Nat → Bool) (i : Nat) : (List.range (i + 1)).filter q = if q i = true then (List.range i).filter q ++ [i] else (List.range i).filter q := by
  rw [List.range_succ, List.filter_append]
  by_cases h : q i = true
  · rw [if_pos h, List.filter_cons_of_pos h]; rfl
  · rw [if_neg h, List.filter_cons_of_neg h]; simp
theorem Ev.stepn {α : Type} {g f : Nat → Option α} {r : α} (m : Nat) (h : ∀ k, g (k + m) = f k) (hf : Ev f r) : Ev g r := by
  obtain ⟨K, hK⟩ := hf
  exact ⟨K + m, fun k hk => by obtain ⟨d, rfl⟩ : ∃ d, k = d + m := ⟨k - m, by omega⟩; rw [h]; exact hK d (by omega)⟩
theorem ite_or {α : Type} (c1 c2 : Prop) [Decidable c1] [Decidable c2] (g : Bool → α) : (if c1 then g true else g (decide c2)) = g (decide (c1 ∨ c2)) := by
  by_cases h : c1
  · rw [if_pos h, decide_eq_true (Or.inl h)]
  · rw [if_neg h]; congr 1; simp [h]
theorem ite_or2 {α : Type} (c1 c2 : Prop) [Decidable c1] [Decidable c2] (a b : α) : (if c1 then a else if c2 then a else b) = if c1 ∨ c2 then a else b := by
  by_cases h : c1
  · rw [if_pos h, if_pos (Or.inl h)]
  · by_cases h2 : c2
    · rw [if_neg h, if_pos h2, if_pos (Or.inr h2)]
    · rw [if_neg h, if_neg h2, if_neg (fun h3 => h3.elim h h2)]
theorem of_ite_none {α : Type} {c : Prop} [Decidable c] {a : α} (h : (if c then none else some a) = none) : c := Classical.byContradiction fun hn => by rw [if_neg hn] at h; cases h
theorem of_ite_some {α : Type} {c : Prop} [Decidable c] {a r : α} (h : (if c then none else some a) = some r) : ¬ c ∧ a = r := by
  by_cases hc : c
  · rw [if_pos hc] at h; cases h
  · rw [if_neg hc] at h; exact ⟨hc, Option.some.inj h⟩
/-- What a round answers: an end, or what follows. -/
def stepO {ρ : Type} (a : Option ρ) (b : Option ρ) : Option ρ := match a with | some r => some r | none => b
/-- A loop whose round is one equation. -/
theorem Ev_loop {ρ : Type} {L : Nat → Nat → Option ρ} {n : Nat} (m : Nat) (p : Nat → Option ρ) {e : ρ}
    (step : ∀ k i, i < n → L (k + m) i = stepO (p i) (L k (i + 1))) (fin : Ev (fun k => L k n) e) : Ev (fun k => L k 0) (first p e n) :=
  Ev_first p (fun i hi hp r hr => Ev.stepn m (fun k => by rw [step k i hi, hp]; rfl) hr) (fun i r hi hp => Ev.stepn m (f := fun _ => some r) (fun k => by rw [step k i hi, hp]; rfl) (Ev.some r)) fin
theorem first_any {ρ : Type} (c : Nat → Prop) [DecidablePred c] (a e : ρ) (n : Nat) : first (fun j => if c j then some a else none) e n = if ∃ j, j < n ∧ c j then a else e := by
  rcases first_cases (fun j => if c j then some a else none) e n with ⟨h1, h2⟩ | ⟨j, h1, h2, h3⟩
  · rw [h1, if_neg]
    rintro ⟨j, hj, hc⟩
    have := h2 j hj
    simp [hc] at this
  · have hc : c j := by
      refine Classical.byContradiction fun hn => ?_
      simp [hn] at h2
    rw [if_pos ⟨j, h1, hc⟩]
    simp [hc] at h2
    exact h2.symm
theorem any_take {α β : Type} (l : List α) (f : α → β) (q : β → Bool) (z : α) {i : Nat} (hi : i ≤ l.length) : ((l.take i).map f).any q = true ↔ ∃ j, j < i ∧ q (f (l.getD j z)) = true := by
  rw [List.any_eq_true]
  constructor
  · rintro ⟨x, hx, hq⟩
    obtain ⟨y, hy, rfl⟩ := List.mem_map.1 hx
    obtain ⟨j, hj, rfl⟩ := List.getElem_of_mem hy
    rw [List.length_take] at hj
    refine ⟨j, by omega, ?_⟩
    rw [List.getElem_take] at hq
    rw [List.getD_eq_getElem?_getD, List.getElem?_eq_getElem (by omega)]
    exact hq
  · rintro ⟨j, hj, hq⟩
    refine ⟨f (l.getD j z), List.mem_map.2 ⟨l.getD j z, ?_, rfl⟩, hq⟩
    rw [List.getD_eq_getElem?_getD, List.getElem?_eq_getElem (by omega)]
    exact List.mem_take_iff_getElem.2 ⟨j, by omega, rfl⟩
theorem any_all {α β : Type} (l : List α) (f : α → β) (q : β → Bool) (z : α) : (l.map f).any q = true ↔ ∃ j, j < l.length ∧ q (f (l.getD j z)) = true := by
  have := any_take l f q z (Nat.le_refl l.length)
  rwa [List.take_length] at this
end Go.Proofs.Ytboonibkibhmhaa.Pl
/- The check of fixed results, and what the laws over one net have in common. -/
namespace Go.Proofs.Ytboonibkibhmhaa.Pure
open Go.RowKit Go.Proofs.Ytboonibkibhmhaa.P Go.Proofs.Ytboonibkibhmhaa.Pl Go.Proofs.YtboonibkibhmhaaW.PrintWords
theorem lives : Ev (fun k => petrinetlaw09_lives.f k) true := Ev.of (fun k => petrinetlaw09_lives.mono k) (k := 60) (by decide +kernel)
end Go.Proofs.Ytboonibkibhmhaa.Pure
/- What a net's check answers, told plainly; and that the program's check answers it. -/
namespace Go.Proofs.Ytboonibkibhmhaa.Pl
open Go.RowKit Go.Proofs.Ytboonibkibhmhaa.P Go.Proofs.YtboonibkibhmhaaW.PrintWords Go.Proofs.YtboonibkibhmhaaW.PrintMore

abbrev Pla := S50
abbrev Tra := S53
abbrev Ac := S64
abbrev zP : Pla := z50
abbrev zT : Tra := z53
abbrev zA : Ac := z64
theorem rdP (xs : List Pla) (i : Nat) : rd_T50 xs (i : Int) = xs.getD i zP := by simp [rd_T50]
theorem rdT (xs : List Tra) (i : Nat) : rd_T53 xs (i : Int) = xs.getD i zT := by simp [rd_T53]
theorem rdA (xs : List Ac) (i : Nat) : rd_T64 xs (i : Int) = xs.getD i zA := by simp [rd_T64]
theorem rdAs (xs : List (List Ac)) (i : Nat) : rd_L4 xs (i : Int) = xs.getD i [] := by simp [rd_L4]

/-! ### arcs -/
def arcE (np : Int) (l : List Ac) (i : Nat) : Option Int :=
  if (l.getD i zA).f0 < 0 ∨ (l.getD i zA).f0 ≥ np then some 7 else if 0 < i ∧ (l.getD (i - 1) zA).f0 ≥ (l.getD i zA).f0 then some 8 else if (l.getD i zA).f1 < 1 ∨ (l.getD i zA).f1 > 99 then some 9 else none
def arcsE (np : Int) (l : List Ac) : Int := first (arcE np l) 0 l.length
theorem checkArcs_step (k : Nat) (l : List Ac) (np : Int) (i : Nat) (hi : i < l.length) (hl : l.length ≤ 1000000) :
    net_checkArcs.l0 (k + 3) l np l (l.length : Int) (i : Int) = stepO (arcE np l i) (net_checkArcs.l0 k l np l (l.length : Int) ((i + 1 : Nat) : Int)) := by
  simp only [net_checkArcs.l0]
  rw [if_pos (by omega), if_pos (by omega), if_pos (by omega), rdA, ite_or _ _ (fun b => net_checkArcs.j1 (k + 2) l np (i : Int) l (l.length : Int) (i : Int) b (l.getD i zA).f0 (l.getD i zA).f1)]
  unfold arcE
  by_cases c1 : (l.getD i zA).f0 < 0 ∨ (l.getD i zA).f0 ≥ np
  · rw [decide_eq_true c1, if_pos c1]; simp only [net_checkArcs.j1, ↓reduceIte, stepO]
  · rw [decide_eq_false c1, if_neg c1]
    have e2 : ∀ b : Bool, net_checkArcs.j2 (k + 1) l np l (l.length : Int) (i : Int) b (l.getD i zA).f0 (l.getD i zA).f1 = if b = true then some 8 else if (l.getD i zA).f1 < 1 ∨ (l.getD i zA).f1 > 99 then some 9 else net_checkArcs.l0 k l np l (l.length : Int) ((i + 1 : Nat) : Int) := by
      intro b
      simp only [net_checkArcs.j2]
      rw [wrap_up hi (by omega), ite_or2]
    simp only [net_checkArcs.j1]
    rw [if_neg Bool.false_ne_true]
    by_cases c2 : 0 < i
    · rw [if_pos (by omega), if_pos (by rw [wrap_ok (by omega) (by omega)]; omega), if_pos (by rw [wrap_ok (by omega) (by omega)]; omega), wrap_ok (x := (i : Int) - 1) (by omega) (by omega), show ((i : Int) - 1) = ((i - 1 : Nat) : Int) by omega, rdA, e2]
      by_cases c3 : (l.getD (i - 1) zA).f0 ≥ (l.getD i zA).f0
      · rw [decide_eq_true c3, if_pos rfl, if_pos ⟨c2, c3⟩]; rfl
      · rw [decide_eq_false c3, if_neg Bool.false_ne_true, if_neg (show ¬ (0 < i ∧ (l.getD (i - 1) zA).f0 ≥ (l.getD i zA).f0) from fun h => c3 h.2)]
        by_cases d : (l.getD i zA).f1 < 1 ∨ (l.getD i zA).f1 > 99
        · rw [if_pos d, if_pos d]; rfl
        · rw [if_neg d, if_neg d]; rfl
    · rw [if_neg (by omega), e2, if_neg Bool.false_ne_true, if_neg (show ¬ (0 < i ∧ (l.getD (i - 1) zA).f0 ≥ (l.getD i zA).f0) from fun h => c2 h.1)]
      by_cases d : (l.getD i zA).f1 < 1 ∨ (l.getD i zA).f1 > 99
      · rw [if_pos d, if_pos d]; rfl
      · rw [if_neg d, if_neg d]; rfl
theorem checkArcs_ev (l : List Ac) (np : Int) (hl : l.length ≤ 1000000) : Ev (fun k => net_checkArcs.f k l np) (arcsE np l) :=
  Ev_loop (L := fun k i => net_checkArcs.l0 k l np l (l.length : Int) (i : Int)) 3 (arcE np l) (fun k i hi => checkArcs_step k l np i hi hl)
    (Ev.one (fun k => by simp only [net_checkArcs.l0]; rw [if_neg (by omega)]))

/-! ### a transition -/
def transE (np : Int) (t : Tra) : Int := if t.f4 < 0 ∨ t.f4 > 9 then 1 else if arcsE np t.f1 ≠ 0 then arcsE np t.f1 else if arcsE np t.f2 ≠ 0 then arcsE np t.f2 else arcsE np t.f3
def ThinT (t : Tra) : Prop := t.f0.size ≤ 1000000 ∧ t.f1.length ≤ 1000000 ∧ t.f2.length ≤ 1000000 ∧ t.f3.length ≤ 1000000
theorem checkTrans_ev (t : Tra) (np : Int) (ht : ThinT t) : Ev (fun k => net_checkTrans.f k t.f0 t.f1 t.f2 t.f3 t.f4 np) (transE np t) := by
  have e0 : ∀ k, net_checkTrans.f k t.f0 t.f1 t.f2 t.f3 t.f4 np = net_checkTrans.j0 k np (decide (t.f4 < 0 ∨ t.f4 > 9)) t.f0 t.f1 t.f2 t.f3 t.f4 := fun k => by
    unfold net_checkTrans.f
    exact ite_or _ _ (fun b => net_checkTrans.j0 k np b t.f0 t.f1 t.f2 t.f3 t.f4)
  refine Ev.congr e0 ?_
  unfold transE
  by_cases c : t.f4 < 0 ∨ t.f4 > 9
  · rw [decide_eq_true c, if_pos c]
    exact Ev.one (fun k => by simp only [net_checkTrans.j0, ↓reduceIte])
  · rw [decide_eq_false c, if_neg c]
    refine Ev.step (f := fun k => net_checkTrans.l0 k np [t.f1, t.f2, t.f3] 3 ((0 : Nat) : Int)) (fun k => by simp only [net_checkTrans.j0]; rw [if_neg Bool.false_ne_true]; rfl) ?_
    have hm : ∀ i, i < 3 → ([t.f1, t.f2, t.f3].getD i []).length ≤ 1000000 := fun i hi => by
      obtain ⟨_, h1, h2, h3⟩ := ht
      rcases i with _ | _ | _ | i
      · exact h1
      · exact h2
      · exact h3
      · omega
    have h := Ev_first (L := fun k i => net_checkTrans.l0 k np [t.f1, t.f2, t.f3] 3 (i : Int)) (n := 3) (fun i => if arcsE np ([t.f1, t.f2, t.f3].getD i []) = 0 then none else some (arcsE np ([t.f1, t.f2, t.f3].getD i []))) (e := 0)
      (fun i hi hp r hr => Ev.step (f := fun k => (net_checkArcs.f k ([t.f1, t.f2, t.f3].getD i []) np).bind fun e => if e = 0 then net_checkTrans.l0 k np [t.f1, t.f2, t.f3] 3 ((i + 1 : Nat) : Int) else some e) (fun k => by
        simp only [net_checkTrans.l0]
        rw [if_pos (by omega), if_pos (by omega), if_pos (by simp only [List.length_cons, List.length_nil]; omega), rdAs, wrap_up hi (by omega)]) (by
          refine Ev.bind (checkArcs_ev _ np (hm i hi)) ?_
          have h0 : arcsE np ([t.f1, t.f2, t.f3].getD i []) = 0 := of_ite_none hp
          simp only [h0, ↓reduceIte]
          exact hr))
      (fun i r hi hp => Ev.step (f := fun k => (net_checkArcs.f k ([t.f1, t.f2, t.f3].getD i []) np).bind fun e => if e = 0 then net_checkTrans.l0 k np [t.f1, t.f2, t.f3] 3 ((i + 1 : Nat) : Int) else some e) (fun k => by
        simp only [net_checkTrans.l0]
        rw [if_pos (by omega), if_pos (by omega), if_pos (by simp only [List.length_cons, List.length_nil]; omega), rdAs, wrap_up hi (by omega)]) (by
          refine Ev.bind (checkArcs_ev _ np (hm i hi)) ?_
          obtain ⟨h0, rfl⟩ := of_ite_some hp
          simp only [h0, ↓reduceIte]
          exact Ev.some _))
      (Ev.one (fun k => by simp only [net_checkTrans.l0]; rw [if_neg (by omega)]))
    have e3 : first (fun i => if arcsE np ([t.f1, t.f2, t.f3].getD i []) = 0 then none else some (arcsE np ([t.f1, t.f2, t.f3].getD i []))) 0 3 = if arcsE np t.f1 ≠ 0 then arcsE np t.f1 else if arcsE np t.f2 ≠ 0 then arcsE np t.f2 else arcsE np t.f3 := by
      unfold first firstOr firstOr firstOr firstOr
      simp only [List.getD_cons_zero, List.getD_cons_succ]
      by_cases h1 : arcsE np t.f1 = 0
      · by_cases h2 : arcsE np t.f2 = 0
        · by_cases h3 : arcsE np t.f3 = 0 <;> simp [h1, h2, h3]
        · simp [h1, h2]
      · simp [h1]
    rw [← e3]
    exact h

/-! ### the check -/
def nmE (ns : List ByteArray) (s : ByteArray) : Int := if nameB s = true then (if (ns.any fun o => o.toList == s.toList) = true then 6 else 0) else 5
def plR (ps : List Pla) (i : Nat) : Int := if nmE ((ps.take i).map (·.f0)) (ps.getD i zP).f0 ≠ 0 then nmE ((ps.take i).map (·.f0)) (ps.getD i zP).f0 else placeE (ps.getD i zP).f1 (ps.getD i zP).f2
def trR (ps : List Pla) (ts : List Tra) (i : Nat) : Int := if nmE (ps.map (·.f0) ++ (ts.take i).map (·.f0)) (ts.getD i zT).f0 ≠ 0 then nmE (ps.map (·.f0) ++ (ts.take i).map (·.f0)) (ts.getD i zT).f0 else transE (ps.length : Int) (ts.getD i zT)
def pF (ps : List Pla) (i : Nat) : Option (Int × Int) := if plR ps i = 0 then none else some (plR ps i, (i : Int))
def tF (ps : List Pla) (ts : List Tra) (i : Nat) : Option (Int × Int) := if trR ps ts i = 0 then none else some (trR ps ts i, (ps.length : Int) + (i : Int))
def checkS (nm : ByteArray) (ps : List Pla) (ts : List Tra) : Int × Int :=
  if nameB nm = true then (if (ps.length : Int) < 1 ∨ (24 : Int) < (ps.length : Int) ∨ (24 : Int) < (ts.length : Int) then (2, 0) else first (pF ps) (first (tF ps ts) (0, 0) ts.length) ps.length) else (5, 0)
def validS (nm : ByteArray) (ps : List Pla) (ts : List Tra) : Bool := (checkS nm ps ts).1 == 0
/-- What is asked of a net's size for its parts to be told. -/
def Thin (ts : List Tra) : Prop := ∀ t ∈ ts, ThinT t
theorem Thin.at {ts : List Tra} (h : Thin ts) {i : Nat} (hi : i < ts.length) : ThinT (ts.getD i zT) := h _ (getD_mem ts zT hi)
theorem addM_ev {ns : List ByteArray} {s : ByteArray} (h : ns.length < 1000000) : addM ns s = some (nmE ns s, if nmE ns s = 0 then ns ++ [s] else ns) := by
  unfold addM nmE
  by_cases h1 : nameB s = true
  · by_cases h2 : (ns.any fun o => o.toList == s.toList) = true
    · simp [h1, h2]
    · rw [if_pos h1, if_neg h2, if_pos h, if_pos h1, if_neg h2]; simp
  · simp [h1]
theorem check_ts {ps : List Pla} {ts : List Tra} (hp : ps.length ≤ 24) (ht : ts.length ≤ 24) (hT : Thin ts) : Ev (fun k => net_Check.l1 k ps ts (ps.map (·.f0)) 0) (first (tF ps ts) (0, 0) ts.length) := by
  have hlen : ∀ i, i ≤ ts.length → (ps.map (·.f0) ++ (ts.take i).map (·.f0)).length < 1000000 := fun i hi => by simp only [List.length_append, List.length_map, List.length_take]; omega
  have stp : ∀ i, i < ts.length → ∀ k, net_Check.l1 (k + 1) ps ts (ps.map (·.f0) ++ (ts.take i).map (·.f0)) (i : Int) = if nmE (ps.map (·.f0) ++ (ts.take i).map (·.f0)) (ts.getD i zT).f0 = 0 then ((net_checkTrans.f k (ts.getD i zT).f0 (ts.getD i zT).f1 (ts.getD i zT).f2 (ts.getD i zT).f3 (ts.getD i zT).f4 (ps.length : Int)).bind fun e => if e = 0 then net_Check.l1 k ps ts (ps.map (·.f0) ++ (ts.take (i + 1)).map (·.f0)) ((i + 1 : Nat) : Int) else some (e, (ps.length : Int) + (i : Int))) else some (nmE (ps.map (·.f0) ++ (ts.take i).map (·.f0)) (ts.getD i zT).f0, (ps.length : Int) + (i : Int)) := fun i hi k => by
    simp only [net_Check.l1]
    rw [if_pos (by omega), if_pos (by omega), rdT, addM_ev (hlen i (by omega)), wrap_up hi (by omega), wrap_ok (x := (ps.length : Int) + (i : Int)) (by omega) (by omega)]
    simp only [Option.bind_some]
    by_cases h0 : nmE (ps.map (·.f0) ++ (ts.take i).map (·.f0)) (ts.getD i zT).f0 = 0
    · rw [if_pos h0, if_pos h0, if_pos h0, List.append_assoc, ← take_map_succ ts (fun t => t.f0) zT hi]
    · rw [if_neg h0, if_neg h0]
  have h := Ev_first (L := fun k i => net_Check.l1 k ps ts (ps.map (·.f0) ++ (ts.take i).map (·.f0)) (i : Int)) (n := ts.length) (tF ps ts) (e := ((0 : Int), (0 : Int)))
    (fun i hi hf r hr => Ev.step (stp i hi) (by
      have hz : trR ps ts i = 0 := of_ite_none hf
      by_cases h0 : nmE (ps.map (·.f0) ++ (ts.take i).map (·.f0)) (ts.getD i zT).f0 = 0
      · unfold trR at hz
        rw [if_neg (by simpa using h0)] at hz
        simp only [h0, ↓reduceIte]
        refine Ev.bind (checkTrans_ev _ _ (hT.at hi)) ?_
        simp only [hz, ↓reduceIte]
        exact hr
      · unfold trR at hz
        rw [if_pos h0] at hz
        exact absurd hz h0))
    (fun i r hi hf => Ev.step (stp i hi) (by
      obtain ⟨hz, rfl⟩ := of_ite_some hf
      by_cases h0 : nmE (ps.map (·.f0) ++ (ts.take i).map (·.f0)) (ts.getD i zT).f0 = 0
      · have e : trR ps ts i = transE (ps.length : Int) (ts.getD i zT) := by unfold trR; rw [if_neg (by simpa using h0)]
        rw [e] at hz ⊢
        simp only [h0, ↓reduceIte]
        refine Ev.bind (checkTrans_ev _ _ (hT.at hi)) ?_
        simp only [hz, ↓reduceIte]
        exact Ev.some _
      · have e : trR ps ts i = nmE (ps.map (·.f0) ++ (ts.take i).map (·.f0)) (ts.getD i zT).f0 := by unfold trR; rw [if_pos h0]
        rw [e]
        simp only [h0, ↓reduceIte]
        exact Ev.some _))
    (Ev.one (fun k => by simp only [net_Check.l1]; rw [if_neg (by omega)]))
  simpa using h
theorem check_ps {ps : List Pla} {ts : List Tra} (hp : ps.length ≤ 24) (ht : ts.length ≤ 24) (hT : Thin ts) : Ev (fun k => net_Check.l0 k ps ts [] 0) (first (pF ps) (first (tF ps ts) (0, 0) ts.length) ps.length) := by
  have hlen : ∀ i, i ≤ ps.length → ((ps.take i).map (·.f0)).length < 1000000 := fun i hi => by simp only [List.length_map, List.length_take]; omega
  have stp : ∀ i, i < ps.length → ∀ k, net_Check.l0 (k + 1) ps ts ((ps.take i).map (·.f0)) (i : Int) = if nmE ((ps.take i).map (·.f0)) (ps.getD i zP).f0 = 0 then (if placeE (ps.getD i zP).f1 (ps.getD i zP).f2 = 0 then net_Check.l0 k ps ts ((ps.take (i + 1)).map (·.f0)) ((i + 1 : Nat) : Int) else some (placeE (ps.getD i zP).f1 (ps.getD i zP).f2, (i : Int))) else some (nmE ((ps.take i).map (·.f0)) (ps.getD i zP).f0, (i : Int)) := fun i hi k => by
    simp only [net_Check.l0]
    rw [if_pos (by omega), if_pos (by omega), rdP, addM_ev (hlen i (by omega)), wrap_up hi (by omega)]
    simp only [Option.bind_some, net_checkPlace.f]
    by_cases h0 : nmE ((ps.take i).map (·.f0)) (ps.getD i zP).f0 = 0
    · rw [if_pos h0, if_pos h0, if_pos h0, ← take_map_succ ps (fun t => t.f0) zP hi]
    · rw [if_neg h0, if_neg h0]
  have h := Ev_first (L := fun k i => net_Check.l0 k ps ts ((ps.take i).map (·.f0)) (i : Int)) (n := ps.length) (pF ps) (e := first (tF ps ts) (0, 0) ts.length)
    (fun i hi hf r hr => Ev.step (stp i hi) (by
      have hz : plR ps i = 0 := of_ite_none hf
      by_cases h0 : nmE ((ps.take i).map (·.f0)) (ps.getD i zP).f0 = 0
      · unfold plR at hz
        rw [if_neg (by simpa using h0)] at hz
        simp only [h0, hz, ↓reduceIte]
        exact hr
      · unfold plR at hz
        rw [if_pos h0] at hz
        exact absurd hz h0))
    (fun i r hi hf => Ev.step (stp i hi) (by
      obtain ⟨hz, rfl⟩ := of_ite_some hf
      by_cases h0 : nmE ((ps.take i).map (·.f0)) (ps.getD i zP).f0 = 0
      · have e : plR ps i = placeE (ps.getD i zP).f1 (ps.getD i zP).f2 := by unfold plR; rw [if_neg (by simpa using h0)]
        rw [e] at hz ⊢
        simp only [h0, hz, ↓reduceIte]
        exact Ev.some _
      · have e : plR ps i = nmE ((ps.take i).map (·.f0)) (ps.getD i zP).f0 := by unfold plR; rw [if_pos h0]
        rw [e]
        simp only [h0, ↓reduceIte]
        exact Ev.some _))
    (by
      refine Ev.step (f := fun k => net_Check.l1 k ps ts (ps.map (·.f0)) 0) (fun k => ?_) (check_ts hp ht hT)
      simp only [net_Check.l0]
      rw [if_neg (by omega), List.take_length])
  simpa using h
theorem check_ev (nm : ByteArray) {ps : List Pla} {ts : List Tra} (hT : Thin ts) : Ev (fun k => net_Check.f k nm ps ts) (checkS nm ps ts) := by
  unfold net_Check.f checkS
  by_cases h1 : nameB nm = true
  · by_cases h2 : (ps.length : Int) < 1 ∨ (24 : Int) < (ps.length : Int) ∨ (24 : Int) < (ts.length : Int)
    · simp only [h1, h2, ↓reduceIte]; exact Ev.some _
    · simp only [h1, h2, ↓reduceIte]
      exact check_ps (by omega) (by omega) hT
  · simp only [h1]; exact Ev.some _
theorem valid_ev (nm : ByteArray) {ps : List Pla} {ts : List Tra} (hT : Thin ts) : Ev (fun k => net_valid.f k nm ps ts) (validS nm ps ts) := by
  unfold net_valid.f
  exact Ev.bind (check_ev nm hT) (Ev.some _)
end Go.Proofs.Ytboonibkibhmhaa.Pl
/- The small nets. -/
namespace Go.Proofs.Ytboonibkibhmhaa.Pl
open Go.RowKit Go.Proofs.Ytboonibkibhmhaa.P Go.Proofs.YtboonibkibhmhaaW.PrintWords Go.Proofs.YtboonibkibhmhaaW.PrintMore

def smT (t : Tra) : Option Bool := if (t.f0.size : Int) > 20 ∨ (t.f1.length : Int) > 26 ∨ (t.f2.length : Int) > 26 ∨ (t.f3.length : Int) > 26 then some false else none
def smP (p : Pla) : Option Bool := if (p.f0.size : Int) > 20 then some false else none
def smallS (nm : ByteArray) (ps : List Pla) (ts : List Tra) : Bool :=
  if (ps.length : Int) > 26 ∨ (ts.length : Int) > 26 ∨ (nm.size : Int) > 20 then false else first (fun i => smP (ps.getD i zP)) (first (fun i => smT (ts.getD i zT)) true ts.length) ps.length
structure SmallN (nm : ByteArray) (ps : List Pla) (ts : List Tra) : Prop where
  p : ps.length ≤ 26
  t : ts.length ≤ 26
  n : nm.size ≤ 20
  pn : ∀ i, i < ps.length → (ps.getD i zP).f0.size ≤ 20
  tn : ∀ i, i < ts.length → (ts.getD i zT).f0.size ≤ 20 ∧ (ts.getD i zT).f1.length ≤ 26 ∧ (ts.getD i zT).f2.length ≤ 26 ∧ (ts.getD i zT).f3.length ≤ 26
theorem smallS_true {nm : ByteArray} {ps : List Pla} {ts : List Tra} (h : smallS nm ps ts = true) : SmallN nm ps ts := by
  unfold smallS at h
  by_cases c : (ps.length : Int) > 26 ∨ (ts.length : Int) > 26 ∨ (nm.size : Int) > 20
  · rw [if_pos c] at h; cases h
  · rw [if_neg c] at h
    rcases first_cases (fun i => smP (ps.getD i zP)) (first (fun i => smT (ts.getD i zT)) true ts.length) ps.length with ⟨h1, h2⟩ | ⟨j, h1, h2, _⟩
    · rw [h1] at h
      rcases first_cases (fun i => smT (ts.getD i zT)) true ts.length with ⟨k1, k2⟩ | ⟨j, k1, k2, _⟩
      · refine ⟨by omega, by omega, by omega, fun i hi => ?_, fun i hi => ?_⟩
        · have := h2 i hi
          unfold smP at this
          by_cases d : ((ps.getD i zP).f0.size : Int) > 20
          · rw [if_pos d] at this; cases this
          · omega
        · have := k2 i hi
          unfold smT at this
          by_cases d : ((ts.getD i zT).f0.size : Int) > 20 ∨ ((ts.getD i zT).f1.length : Int) > 26 ∨ ((ts.getD i zT).f2.length : Int) > 26 ∨ ((ts.getD i zT).f3.length : Int) > 26
          · rw [if_pos d] at this; cases this
          · omega
      · rw [h] at k2
        unfold smT at k2
        by_cases d : ((ts.getD j zT).f0.size : Int) > 20 ∨ ((ts.getD j zT).f1.length : Int) > 26 ∨ ((ts.getD j zT).f2.length : Int) > 26 ∨ ((ts.getD j zT).f3.length : Int) > 26
        · rw [if_pos d] at k2; cases k2
        · rw [if_neg d] at k2; cases k2
    · rw [h] at h2
      unfold smP at h2
      by_cases d : ((ps.getD j zP).f0.size : Int) > 20
      · rw [if_pos d] at h2; cases h2
      · rw [if_neg d] at h2; cases h2
theorem SmallN.thin {nm : ByteArray} {ps : List Pla} {ts : List Tra} (h : SmallN nm ps ts) : Thin ts := fun t ht => by
  obtain ⟨i, hi, rfl⟩ := List.getElem_of_mem ht
  have := h.tn i hi
  rw [List.getD_eq_getElem?_getD, List.getElem?_eq_getElem hi] at this
  obtain ⟨a, b, c, d⟩ := this
  exact ⟨Nat.le_trans a (by decide), Nat.le_trans b (by decide), Nat.le_trans c (by decide), Nat.le_trans d (by decide)⟩
def smallR (b : Bool) (nm : ByteArray) (ps : List Pla) (ts : List Tra) : ByteArray × List Pla × List Tra × Bool := if b = true then (nm, ps, ts, true) else (⟨#[]⟩, [], [], false)
theorem first_map {α β : Type} (f : α → β) (p : Nat → Option α) (e : α) (n : Nat) : first (fun i => (p i).map f) (f e) n = f (first p e n) := by
  rcases first_cases p e n with ⟨h1, h2⟩ | ⟨j, h1, h2, h3⟩
  · rw [h1]; exact first_all (fun j hj => by rw [h2 j hj]; rfl)
  · exact first_at j h1 (by rw [h2]; rfl) (fun m hm => by rw [h3 m hm]; rfl)
theorem small_ev (nm : ByteArray) (ps : List Pla) (ts : List Tra) : Ev (fun k => petrinetref09_Small.f k nm ps ts) (smallR (smallS nm ps ts) nm ps ts) := by
  have e0 : ∀ k, petrinetref09_Small.f k nm ps ts = petrinetref09_Small.j0 k (decide ((ps.length : Int) > 26 ∨ (ts.length : Int) > 26 ∨ (nm.size : Int) > 20)) nm ps ts := fun k => by
    unfold petrinetref09_Small.f
    rw [ite_or ((ts.length : Int) > 26) _ (fun b => petrinetref09_Small.j0 k b nm ps ts)]
    exact ite_or _ _ (fun b => petrinetref09_Small.j0 k b nm ps ts)
  refine Ev.congr e0 ?_
  unfold smallS
  by_cases c : (ps.length : Int) > 26 ∨ (ts.length : Int) > 26 ∨ (nm.size : Int) > 20
  · rw [decide_eq_true c, if_pos c]
    exact Ev.one (fun k => by simp only [petrinetref09_Small.j0, ↓reduceIte]; rfl)
  · rw [decide_eq_false c, if_neg c]
    refine Ev.step (f := fun k => petrinetref09_Small.l0 k ((0 : Nat) : Int) nm ps ts) (fun k => by simp only [petrinetref09_Small.j0]; rw [if_neg Bool.false_ne_true]; rfl) ?_
    have ht := Ev_loop (L := fun k i => petrinetref09_Small.l1 k (i : Int) nm ps ts) (n := ts.length) 1 (fun i => (smT (ts.getD i zT)).map (fun b => smallR b nm ps ts)) (e := smallR true nm ps ts)
      (fun k i hi => by
        simp only [petrinetref09_Small.l1]
        rw [if_pos (by omega), if_pos (by omega), rdT, wrap_up hi (by omega), ite_or2, ite_or2, ite_or2]
        unfold smT
        by_cases d : ((ts.getD i zT).f0.size : Int) > 20 ∨ ((ts.getD i zT).f1.length : Int) > 26 ∨ ((ts.getD i zT).f2.length : Int) > 26 ∨ ((ts.getD i zT).f3.length : Int) > 26
        · rw [if_pos d, if_pos (by omega)]; rfl
        · rw [if_neg d, if_neg (by omega)]; rfl)
      (Ev.one (fun k => by simp only [petrinetref09_Small.l1]; rw [if_neg (by omega)]; rfl))
    have hp := Ev_loop (L := fun k i => petrinetref09_Small.l0 k (i : Int) nm ps ts) (n := ps.length) 1 (fun i => (smP (ps.getD i zP)).map (fun b => smallR b nm ps ts)) (e := first (fun i => (smT (ts.getD i zT)).map (fun b => smallR b nm ps ts)) (smallR true nm ps ts) ts.length)
      (fun k i hi => by
        simp only [petrinetref09_Small.l0]
        rw [if_pos (by omega), if_pos (by omega), rdP, wrap_up hi (by omega)]
        unfold smP
        by_cases d : ((ps.getD i zP).f0.size : Int) > 20
        · rw [if_pos d, if_pos d]; rfl
        · rw [if_neg d, if_neg d]; rfl)
      (Ev.step (f := fun k => petrinetref09_Small.l1 k ((0 : Nat) : Int) nm ps ts) (fun k => by simp only [petrinetref09_Small.l0]; rw [if_neg (by omega)]; rfl) ht)
    rw [first_map (fun b => smallR b nm ps ts), first_map (fun b => smallR b nm ps ts)] at hp
    exact hp
end Go.Proofs.Ytboonibkibhmhaa.Pl
/- What the functions over nets answer, told plainly. -/
namespace Go.Proofs.Ytboonibkibhmhaa.Pl
open Go.RowKit Go.Proofs.Ytboonibkibhmhaa.P Go.Proofs.YtboonibkibhmhaaW.PrintWords Go.Proofs.YtboonibkibhmhaaW.PrintMore

theorem bytes_eq {a b : ByteArray} (h : a.toList = b.toList) : a = b := by
  rw [ByteArray.toList_eq, ByteArray.toList_eq] at h
  exact Go.WideShapes.bytes_inj h
def weightS (l : List Ac) (p : Int) : Int := first (fun i => if (l.getD i zA).f0 = p then some (l.getD i zA).f1 else none) 0 l.length
def placeS (v : Bool) (ps : List Pla) (s : ByteArray) : Int := if v = true then first (fun i => if (ps.getD i zP).f0.toList = s.toList then some (i : Int) else none) (-1) ps.length else -1
def transS (v : Bool) (ts : List Tra) (s : ByteArray) : Int := if v = true then first (fun i => if (ts.getD i zT).f0.toList = s.toList then some (i : Int) else none) (-1) ts.length else -1
def preS (v : Bool) (ts : List Tra) (t p : Int) : Int := if v = true then (if t < 0 ∨ t ≥ (ts.length : Int) then 0 else weightS (ts.getD t.toNat zT).f1 p) else 0
def postS (v : Bool) (ts : List Tra) (t p : Int) : Int := if v = true then (if t < 0 ∨ t ≥ (ts.length : Int) then 0 else weightS (ts.getD t.toNat zT).f2 p) else 0
def inputsS (v : Bool) (ts : List Tra) (t : Int) : List Int := if v = true then (if t < 0 ∨ t ≥ (ts.length : Int) then [] else (ts.getD t.toNat zT).f1.map (·.f0)) else []
def outputsS (v : Bool) (ts : List Tra) (t : Int) : List Int := if v = true then (if t < 0 ∨ t ≥ (ts.length : Int) then [] else (ts.getD t.toNat zT).f2.map (·.f0)) else []
def initialS (v : Bool) (ps : List Pla) : List Int := if v = true then ps.map (·.f1) else []
def plainP (ps : List Pla) (e : Bool) : Bool := first (fun i => if (ps.getD i zP).f2 ≠ 0 then some false else none) e ps.length
def plainT (ts : List Tra) (e : Bool) : Bool := first (fun i => if ((ts.getD i zT).f3.length : Int) > 0 ∨ (ts.getD i zT).f4 ≠ 0 then some false else none) e ts.length
def plainS (v : Bool) (ps : List Pla) (ts : List Tra) : Bool := plainT ts (plainP ps v)
theorem plainP_eq (ps : List Pla) (e : Bool) : plainP ps e = if ∃ i, i < ps.length ∧ (ps.getD i zP).f2 ≠ 0 then false else e := first_any _ _ _ _
theorem plainT_eq (ts : List Tra) (e : Bool) : plainT ts e = if ∃ i, i < ts.length ∧ (((ts.getD i zT).f3.length : Int) > 0 ∨ (ts.getD i zT).f4 ≠ 0) then false else e := first_any _ _ _ _
theorem plain_swap (v : Bool) (ps : List Pla) (ts : List Tra) : plainS v ps ts = if v = true then plainP ps (plainT ts true) else false := by
  unfold plainS
  rw [plainT_eq, plainP_eq, plainP_eq, plainT_eq]
  cases v <;> by_cases c1 : ∃ i, i < ps.length ∧ (ps.getD i zP).f2 ≠ 0 <;> by_cases c2 : ∃ i, i < ts.length ∧ (((ts.getD i zT).f3.length : Int) > 0 ∨ (ts.getD i zT).f4 ≠ 0) <;> simp only [c1, c2, if_true, if_false, Bool.false_eq_true, ite_self]
def ordinaryS (v : Bool) (ts : List Tra) : Bool := if (ts.all fun t => (t.f1.all fun a => a.f1 == 1) && (t.f2.all fun a => a.f1 == 1)) = true then v else false
def incRow (ts : List Tra) (p : Nat) : List Int := ts.map fun t => wrap64 (weightS t.f2 (p : Int) - weightS t.f1 (p : Int))
def incidenceS (v : Bool) (ps : List Pla) (ts : List Tra) : List (List Int) := if v = true then (if ts.length = 0 then [] else (List.range ps.length).map (incRow ts)) else []
def producersS (v : Bool) (ts : List Tra) (p : Int) : List Int := if v = true then ((List.range ts.length).filter fun t : Nat => decide (weightS (ts.getD t zT).f2 p > 0)).map (fun t : Nat => (t : Int)) else []
def consumersS (v : Bool) (ts : List Tra) (p : Int) : List Int := if v = true then ((List.range ts.length).filter fun t : Nat => decide (weightS (ts.getD t zT).f1 p > 0)).map (fun t : Nat => (t : Int)) else []

/-! ### equal nets -/
theorem ac_ext {a b : Ac} (h0 : a.f0 = b.f0) (h1 : a.f1 = b.f1) : a = b := by cases a; cases b; simp_all
theorem pla_ext {a b : Pla} (h0 : a.f0 = b.f0) (h1 : a.f1 = b.f1) (h2 : a.f2 = b.f2) : a = b := by cases a; cases b; simp_all
theorem tra_ext {a b : Tra} (h0 : a.f0 = b.f0) (h1 : a.f1 = b.f1) (h2 : a.f2 = b.f2) (h3 : a.f3 = b.f3) (h4 : a.f4 = b.f4) : a = b := by cases a; cases b; simp_all
theorem ext_getD {α : Type} (z : α) {a b : List α} (hl : a.length = b.length) (h : ∀ i, i < a.length → a.getD i z = b.getD i z) : a = b := by
  refine List.ext_getElem hl (fun i h1 h2 => ?_)
  have := h i h1
  rw [List.getD_eq_getElem?_getD, List.getD_eq_getElem?_getD, List.getElem?_eq_getElem h1, List.getElem?_eq_getElem h2] at this
  exact this
def neA (x y : Ac) : Bool := (!(x.f0 == y.f0) || (!(x.f1 == y.f1)))
theorem neA_false {x y : Ac} : neA x y = false ↔ x = y := by
  unfold neA
  constructor
  · intro h
    simp only [Bool.or_eq_false_iff, Bool.not_eq_false', beq_iff_eq] at h
    exact ac_ext h.1 h.2
  · rintro rfl
    simp
def sameArcsS (a b : List Ac) : Bool := if (a.length : Int) = (b.length : Int) then first (fun i => if neA (a.getD i zA) (b.getD i zA) = true then some false else none) true a.length else false
theorem first_bool {n : Nat} (c : Nat → Bool) : first (fun i => if c i = true then some false else none) true n = true ↔ ∀ i, i < n → c i = false := by
  rw [first_any (fun i => c i = true)]
  constructor
  · intro h i hi
    refine Bool.eq_false_iff.2 fun hc => ?_
    rw [if_pos ⟨i, hi, hc⟩] at h
    cases h
  · intro h
    rw [if_neg]
    rintro ⟨i, hi, hc⟩
    rw [h i hi] at hc
    cases hc
theorem sameArcsS_iff {a b : List Ac} : sameArcsS a b = true ↔ a = b := by
  unfold sameArcsS
  constructor
  · intro h
    by_cases hl : (a.length : Int) = (b.length : Int)
    · rw [if_pos hl] at h
      exact ext_getD zA (by omega) (fun i hi => neA_false.1 (first_bool (fun i => neA (a.getD i zA) (b.getD i zA)) |>.1 h i hi))
    · rw [if_neg hl] at h; cases h
  · rintro rfl
    rw [if_pos rfl]
    exact first_bool (fun i => neA (a.getD i zA) (a.getD i zA)) |>.2 fun i _ => neA_false.2 rfl
def neP (x y : Pla) : Bool := (!(x.f0.toList == y.f0.toList) || (!(x.f1 == y.f1) || (!(x.f2 == y.f2))))
theorem neP_false {x y : Pla} : neP x y = false ↔ x = y := by
  unfold neP
  constructor
  · intro h
    simp only [Bool.or_eq_false_iff, Bool.not_eq_false', beq_iff_eq] at h
    exact pla_ext (bytes_eq h.1) h.2.1 h.2.2
  · rintro rfl
    simp
def eqT (x y : Tra) : Bool := if (x.f0.toList == y.f0.toList) = true then (if (x.f4 == y.f4) = true then (if sameArcsS x.f1 y.f1 = true then (if sameArcsS x.f2 y.f2 = true then sameArcsS x.f3 y.f3 else false) else false) else false) else false
theorem eqT_true {x y : Tra} : eqT x y = true ↔ x = y := by
  unfold eqT
  constructor
  · intro h
    by_cases c0 : (x.f0.toList == y.f0.toList) = true
    · rw [if_pos c0] at h
      by_cases c4 : (x.f4 == y.f4) = true
      · rw [if_pos c4] at h
        by_cases c1 : sameArcsS x.f1 y.f1 = true
        · rw [if_pos c1] at h
          by_cases c2 : sameArcsS x.f2 y.f2 = true
          · rw [if_pos c2] at h
            exact tra_ext (bytes_eq (beq_iff_eq.1 c0)) (sameArcsS_iff.1 c1) (sameArcsS_iff.1 c2) (sameArcsS_iff.1 h) (beq_iff_eq.1 c4)
          · rw [if_neg c2] at h; cases h
        · rw [if_neg c1] at h; cases h
      · rw [if_neg c4] at h; cases h
    · rw [if_neg c0] at h; cases h
  · rintro rfl
    rw [if_pos (beq_iff_eq.2 rfl), if_pos (beq_iff_eq.2 rfl), if_pos (sameArcsS_iff.2 rfl), if_pos (sameArcsS_iff.2 rfl)]
    exact sameArcsS_iff.2 rfl
def equalS (nm : ByteArray) (ps : List Pla) (ts : List Tra) (nm' : ByteArray) (ps' : List Pla) (ts' : List Tra) : Bool :=
  if (nm.toList == nm'.toList) = true then (if (ps.length : Int) = (ps'.length : Int) then (if (ts.length : Int) = (ts'.length : Int) then first (fun i => if neP (ps.getD i zP) (ps'.getD i zP) = true then some false else none) (first (fun i => if (!eqT (ts.getD i zT) (ts'.getD i zT)) = true then some false else none) true ts.length) ps.length else false) else false) else false
theorem equalS_iff {nm : ByteArray} {ps : List Pla} {ts : List Tra} {nm' : ByteArray} {ps' : List Pla} {ts' : List Tra} : equalS nm ps ts nm' ps' ts' = true ↔ nm = nm' ∧ ps = ps' ∧ ts = ts' := by
  unfold equalS
  constructor
  · intro h
    by_cases c0 : (nm.toList == nm'.toList) = true
    · rw [if_pos c0] at h
      by_cases c1 : (ps.length : Int) = (ps'.length : Int)
      · rw [if_pos c1] at h
        by_cases c2 : (ts.length : Int) = (ts'.length : Int)
        · rw [if_pos c2] at h
          rcases first_cases (fun i => if neP (ps.getD i zP) (ps'.getD i zP) = true then some false else none) (first (fun i => if (!eqT (ts.getD i zT) (ts'.getD i zT)) = true then some false else none) true ts.length) ps.length with ⟨h1, h2⟩ | ⟨j, h1, h2, _⟩
          · rw [h1] at h
            refine ⟨bytes_eq (beq_iff_eq.1 c0), ext_getD zP (by omega) (fun i hi => neP_false.1 ?_), ext_getD zT (by omega) (fun i hi => eqT_true.1 ?_)⟩
            · have := h2 i hi
              refine Bool.eq_false_iff.2 fun hc => ?_
              simp only [hc, if_true] at this
              cases this
            · have := first_bool (fun i => !eqT (ts.getD i zT) (ts'.getD i zT)) |>.1 h i hi
              simpa using this
          · rw [h] at h2
            by_cases d : neP (ps.getD j zP) (ps'.getD j zP) = true
            · simp only [d, if_true] at h2; cases h2
            · simp only [d] at h2; cases h2
        · rw [if_neg c2] at h; cases h
      · rw [if_neg c1] at h; cases h
    · rw [if_neg c0] at h; cases h
  · rintro ⟨rfl, rfl, rfl⟩
    rw [if_pos (beq_iff_eq.2 rfl), if_pos rfl, if_pos rfl, first_all]
    · exact first_bool (fun i => !eqT (ts.getD i zT) (ts.getD i zT)) |>.2 fun i _ => by rw [eqT_true.2 rfl]; rfl
    · intro j hj
      rw [if_neg (by rw [neP_false.2 rfl]; exact Bool.false_ne_true)]
end Go.Proofs.Ytboonibkibhmhaa.Pl
/- What the program's functions over nets answer: the initial marking. -/
namespace Go.Proofs.Ytboonibkibhmhaa.Pl
open Go.RowKit Go.Proofs.Ytboonibkibhmhaa.P Go.Proofs.YtboonibkibhmhaaW.PrintWords Go.Proofs.YtboonibkibhmhaaW.PrintMore

theorem initial_ev (nm : ByteArray) {ps : List Pla} {ts : List Tra} (hp : ps.length ≤ 1000000) (hT : Thin ts) : Ev (fun k => net_Initial.f k nm ps ts) (initialS (validS nm ps ts) ps) := by
  unfold net_Initial.f initialS
  refine Ev.bind (valid_ev nm hT) ?_
  by_cases hv : validS nm ps ts = true
  · simp only [hv, ↓reduceIte]
    have h := Ev_up (L := fun k i => net_Initial.l0 k ((ps.take i).map (·.f1)) ps (ps.length : Int) (i : Int)) (n := ps.length) (r := ps.map (·.f1))
      (fun i hi hr => Ev.step (fun k => by
        simp only [net_Initial.l0]
        rw [if_pos (by omega), if_pos (by omega), if_pos (by omega), if_pos (by simp only [List.length_map, List.length_take]; omega), rdP, wrap_up hi (by omega), ← take_map_succ ps (fun a => a.f1) zP hi]) hr)
      (Ev.one (fun k => by simp only [net_Initial.l0]; rw [if_neg (by omega), List.take_length]))
    simpa using h
  · simp only [hv]; exact Ev.some _
end Go.Proofs.Ytboonibkibhmhaa.Pl
/- What the program's functions over nets answer: what the arcs of a list say. -/
namespace Go.Proofs.Ytboonibkibhmhaa.Pl
set_option linter.unusedVariables false
open Go.RowKit Go.Proofs.Ytboonibkibhmhaa.P Go.Proofs.YtboonibkibhmhaaW.PrintWords Go.Proofs.YtboonibkibhmhaaW.PrintMore

theorem weight_ev (l : List Ac) (p : Int) (hl : l.length ≤ 1000000) : Ev (fun k => net_weight.f k l p) (weightS l p) :=
  Ev_loop (L := fun k i => net_weight.l0 k p l (l.length : Int) (i : Int)) 1 _ (fun k i hi => by
    simp only [net_weight.l0]
    rw [if_pos (by omega), if_pos (by omega), if_pos (by omega), rdA, wrap_up hi (by omega)]
    by_cases c : (l.getD i zA).f0 = p
    · rw [if_pos c, if_pos c]; rfl
    · rw [if_neg c, if_neg c]; rfl) (Ev.one (fun k => by simp only [net_weight.l0]; rw [if_neg (by omega)]))
theorem targets_ev (l : List Ac) (hl : l.length ≤ 1000000) : Ev (fun k => net_targets.f k l) (l.map (·.f0)) := by
  have h := Ev_up (L := fun k i => net_targets.l0 k ((l.take i).map (·.f0)) l (l.length : Int) (i : Int)) (n := l.length) (r := l.map (·.f0))
    (fun i hi hr => Ev.step (fun k => by
      simp only [net_targets.l0]
      rw [if_pos (by omega), if_pos (by omega), if_pos (by omega), if_pos (by simp only [List.length_map, List.length_take]; omega), rdA, wrap_up hi (by omega), ← take_map_succ l (fun a => a.f0) zA hi]) hr)
    (Ev.one (fun k => by simp only [net_targets.l0]; rw [if_neg (by omega), List.take_length]))
  unfold net_targets.f
  simpa using h
end Go.Proofs.Ytboonibkibhmhaa.Pl
/- What the program's functions over nets answer: names and weights. -/
namespace Go.Proofs.Ytboonibkibhmhaa.Pl
set_option linter.unusedVariables false
open Go.RowKit Go.Proofs.Ytboonibkibhmhaa.P Go.Proofs.YtboonibkibhmhaaW.PrintWords Go.Proofs.YtboonibkibhmhaaW.PrintMore

theorem place_ev (nm : ByteArray) {ps : List Pla} {ts : List Tra} (s : ByteArray) (hp : ps.length ≤ 1000000) (hT : Thin ts) : Ev (fun k => net_Place.f k nm ps ts s) (placeS (validS nm ps ts) ps s) := by
  unfold net_Place.f placeS
  refine Ev.bind (valid_ev nm hT) ?_
  by_cases hv : validS nm ps ts = true
  · simp only [hv, ↓reduceIte]
    exact Ev_loop (L := fun k i => net_Place.l0 k s ps (ps.length : Int) (i : Int)) 1 _ (fun k i hi => by
      simp only [net_Place.l0]
      rw [if_pos (by omega), if_pos (by omega), if_pos (by omega), rdP, wrap_up hi (by omega)]
      by_cases c : (ps.getD i zP).f0.toList = s.toList
      · rw [if_pos c, if_pos c]; rfl
      · rw [if_neg c, if_neg c]; rfl) (Ev.one (fun k => by simp only [net_Place.l0]; rw [if_neg (by omega)]))
  · simp only [hv]; exact Ev.some _
theorem trans_ev (nm : ByteArray) {ps : List Pla} {ts : List Tra} (s : ByteArray) (ht : ts.length ≤ 1000000) (hT : Thin ts) : Ev (fun k => net_Trans.f k nm ps ts s) (transS (validS nm ps ts) ts s) := by
  unfold net_Trans.f transS
  refine Ev.bind (valid_ev nm hT) ?_
  by_cases hv : validS nm ps ts = true
  · simp only [hv, ↓reduceIte]
    exact Ev_loop (L := fun k i => net_Trans.l0 k s ts (ts.length : Int) (i : Int)) 1 _ (fun k i hi => by
      simp only [net_Trans.l0]
      rw [if_pos (by omega), if_pos (by omega), if_pos (by omega), rdT, wrap_up hi (by omega)]
      by_cases c : (ts.getD i zT).f0.toList = s.toList
      · rw [if_pos c, if_pos c]; rfl
      · rw [if_neg c, if_neg c]; rfl) (Ev.one (fun k => by simp only [net_Trans.l0]; rw [if_neg (by omega)]))
  · simp only [hv]; exact Ev.some _
theorem pre_ev (nm : ByteArray) {ps : List Pla} {ts : List Tra} (t p : Int) (ht : ts.length ≤ 1000000) (hT : Thin ts) : Ev (fun k => net_Pre.f k nm ps ts t p) (preS (validS nm ps ts) ts t p) := by
  unfold net_Pre.f preS
  refine Ev.bind (valid_ev nm hT) ?_
  by_cases hv : validS nm ps ts = true
  · simp only [hv, ↓reduceIte]
    by_cases c : t < 0 ∨ t ≥ (ts.length : Int)
    · rw [if_pos c]
      exact Ev.congr (f := fun _ => some 0) (fun k => by rw [ite_or2, if_pos c]) (Ev.some _)
    · rw [if_neg c]
      obtain ⟨i, rfl⟩ : ∃ i : Nat, t = i := ⟨t.toNat, by omega⟩
      have hi : i < ts.length := by omega
      refine Ev.congr (f := fun k => (net_weight.f k (ts.getD i zT).f1 p).bind fun x => some x) (fun k => by rw [ite_or2, if_neg c, if_pos (by omega), if_pos (by omega), rdT]) ?_
      exact Ev.bind (weight_ev _ p (hT.at hi).2.1) (Ev.some _)
  · simp only [hv]; exact Ev.some _
theorem post_ev (nm : ByteArray) {ps : List Pla} {ts : List Tra} (t p : Int) (ht : ts.length ≤ 1000000) (hT : Thin ts) : Ev (fun k => net_Post.f k nm ps ts t p) (postS (validS nm ps ts) ts t p) := by
  unfold net_Post.f postS
  refine Ev.bind (valid_ev nm hT) ?_
  by_cases hv : validS nm ps ts = true
  · simp only [hv, ↓reduceIte]
    by_cases c : t < 0 ∨ t ≥ (ts.length : Int)
    · rw [if_pos c]
      exact Ev.congr (f := fun _ => some 0) (fun k => by rw [ite_or2, if_pos c]) (Ev.some _)
    · rw [if_neg c]
      obtain ⟨i, rfl⟩ : ∃ i : Nat, t = i := ⟨t.toNat, by omega⟩
      have hi : i < ts.length := by omega
      refine Ev.congr (f := fun k => (net_weight.f k (ts.getD i zT).f2 p).bind fun x => some x) (fun k => by rw [ite_or2, if_neg c, if_pos (by omega), if_pos (by omega), rdT]) ?_
      exact Ev.bind (weight_ev _ p (hT.at hi).2.2.1) (Ev.some _)
  · simp only [hv]; exact Ev.some _
end Go.Proofs.Ytboonibkibhmhaa.Pl
/- What a valid net is. -/
namespace Go.Proofs.Ytboonibkibhmhaa.Pl
open Go.RowKit Go.Proofs.Ytboonibkibhmhaa.P Go.Proofs.YtboonibkibhmhaaW.PrintWords Go.Proofs.YtboonibkibhmhaaW.PrintMore

structure ValidN (nm : ByteArray) (ps : List Pla) (ts : List Tra) : Prop where
  n : nameB nm = true
  p0 : 1 ≤ ps.length
  p : ps.length ≤ 24
  t : ts.length ≤ 24
  pl : ∀ i, i < ps.length → plR ps i = 0
  tr : ∀ i, i < ts.length → trR ps ts i = 0
theorem validS_iff {nm : ByteArray} {ps : List Pla} {ts : List Tra} : validS nm ps ts = true ↔ ValidN nm ps ts := by
  unfold validS checkS
  constructor
  · intro h
    by_cases h1 : nameB nm = true
    · rw [if_pos h1] at h
      by_cases h2 : (ps.length : Int) < 1 ∨ (24 : Int) < (ps.length : Int) ∨ (24 : Int) < (ts.length : Int)
      · rw [if_pos h2] at h; simp at h
      · rw [if_neg h2] at h
        rcases first_cases (pF ps) (first (tF ps ts) (0, 0) ts.length) ps.length with ⟨a1, a2⟩ | ⟨j, a1, a2, _⟩
        · rw [a1] at h
          rcases first_cases (tF ps ts) ((0 : Int), (0 : Int)) ts.length with ⟨b1, b2⟩ | ⟨j, b1, b2, _⟩
          · exact ⟨h1, by omega, by omega, by omega, fun i hi => of_ite_none (a2 i hi), fun i hi => of_ite_none (b2 i hi)⟩
          · obtain ⟨c1, c2⟩ := of_ite_some b2
            rw [← c2] at h
            exact absurd (beq_iff_eq.1 h) c1
        · obtain ⟨c1, c2⟩ := of_ite_some a2
          rw [← c2] at h
          exact absurd (beq_iff_eq.1 h) c1
    · rw [if_neg h1] at h; simp at h
  · rintro ⟨h1, h2, h3, h4, h5, h6⟩
    rw [if_pos h1, if_neg (by omega), first_all (fun j hj => by unfold pF; rw [if_pos (h5 j hj)]), first_all (fun j hj => by unfold tF; rw [if_pos (h6 j hj)])]
    rfl
theorem nmE_zero {ns : List ByteArray} {s : ByteArray} (h : nmE ns s = 0) : nameB s = true ∧ (ns.any fun o => o.toList == s.toList) = false := by
  unfold nmE at h
  by_cases h1 : nameB s = true
  · rw [if_pos h1] at h
    by_cases h2 : (ns.any fun o => o.toList == s.toList) = true
    · rw [if_pos h2] at h; exact absurd h (by decide)
    · exact ⟨h1, Bool.eq_false_iff.2 h2⟩
  · rw [if_neg h1] at h; exact absurd h (by decide)
section
variable {nm : ByteArray} {ps : List Pla} {ts : List Tra} (h : ValidN nm ps ts)
include h
theorem ValidN.plName {i : Nat} (hi : i < ps.length) : nmE ((ps.take i).map (·.f0)) (ps.getD i zP).f0 = 0 ∧ placeE (ps.getD i zP).f1 (ps.getD i zP).f2 = 0 := by
  have := h.pl i hi
  unfold plR at this
  by_cases c : nmE ((ps.take i).map (·.f0)) (ps.getD i zP).f0 = 0
  · rw [if_neg (by simpa using c)] at this; exact ⟨c, this⟩
  · rw [if_pos c] at this; exact absurd this c
theorem ValidN.trName {i : Nat} (hi : i < ts.length) : nmE (ps.map (·.f0) ++ (ts.take i).map (·.f0)) (ts.getD i zT).f0 = 0 ∧ transE (ps.length : Int) (ts.getD i zT) = 0 := by
  have := h.tr i hi
  unfold trR at this
  by_cases c : nmE (ps.map (·.f0) ++ (ts.take i).map (·.f0)) (ts.getD i zT).f0 = 0
  · rw [if_neg (by simpa using c)] at this; exact ⟨c, this⟩
  · rw [if_pos c] at this; exact absurd this c
theorem ValidN.arcs {i : Nat} (hi : i < ts.length) : (0 ≤ (ts.getD i zT).f4 ∧ (ts.getD i zT).f4 ≤ 9) ∧ arcsE (ps.length : Int) (ts.getD i zT).f1 = 0 ∧ arcsE (ps.length : Int) (ts.getD i zT).f2 = 0 ∧ arcsE (ps.length : Int) (ts.getD i zT).f3 = 0 := by
  have := (h.trName hi).2
  unfold transE at this
  by_cases c : (ts.getD i zT).f4 < 0 ∨ (ts.getD i zT).f4 > 9
  · rw [if_pos c] at this; exact absurd this (by decide)
  · rw [if_neg c] at this
    by_cases c1 : arcsE (ps.length : Int) (ts.getD i zT).f1 = 0
    · rw [if_neg (by simpa using c1)] at this
      by_cases c2 : arcsE (ps.length : Int) (ts.getD i zT).f2 = 0
      · rw [if_neg (by simpa using c2)] at this; exact ⟨by omega, c1, c2, this⟩
      · rw [if_pos c2] at this; exact absurd this c2
    · rw [if_pos c1] at this; exact absurd this c1
theorem ValidN.plDiff {i j : Nat} (hj : j < i) (hi : i < ps.length) : (ps.getD j zP).f0.toList ≠ (ps.getD i zP).f0.toList := by
  intro e
  have := (nmE_zero (h.plName hi).1).2
  rw [(any_take ps (·.f0) _ zP (by omega)).2 ⟨j, hj, by rw [e]; exact beq_iff_eq.2 rfl⟩] at this
  cases this
theorem ValidN.trDiff {i j : Nat} (hj : j < i) (hi : i < ts.length) : (ts.getD j zT).f0.toList ≠ (ts.getD i zT).f0.toList := by
  intro e
  have := (nmE_zero (h.trName hi).1).2
  rw [List.any_append, (any_take ts (·.f0) _ zT (by omega)).2 ⟨j, hj, by rw [e]; exact beq_iff_eq.2 rfl⟩, Bool.or_true] at this
  cases this
theorem ValidN.ptDiff {i j : Nat} (hj : j < ps.length) (hi : i < ts.length) : (ps.getD j zP).f0.toList ≠ (ts.getD i zT).f0.toList := by
  intro e
  have := (nmE_zero (h.trName hi).1).2
  rw [List.any_append, (any_all ps (·.f0) _ zP).2 ⟨j, hj, by rw [e]; exact beq_iff_eq.2 rfl⟩, Bool.true_or] at this
  cases this
end
theorem arcE_none {np : Int} {l : List Ac} {i : Nat} (h : arcE np l i = none) : 0 ≤ (l.getD i zA).f0 ∧ (l.getD i zA).f0 < np ∧ (0 < i → (l.getD (i - 1) zA).f0 < (l.getD i zA).f0) ∧ 1 ≤ (l.getD i zA).f1 ∧ (l.getD i zA).f1 ≤ 99 := by
  unfold arcE at h
  by_cases c1 : (l.getD i zA).f0 < 0 ∨ (l.getD i zA).f0 ≥ np
  · rw [if_pos c1] at h; cases h
  · rw [if_neg c1] at h
    by_cases c2 : 0 < i ∧ (l.getD (i - 1) zA).f0 ≥ (l.getD i zA).f0
    · rw [if_pos c2] at h; cases h
    · rw [if_neg c2] at h
      by_cases c3 : (l.getD i zA).f1 < 1 ∨ (l.getD i zA).f1 > 99
      · rw [if_pos c3] at h; cases h
      · exact ⟨by omega, by omega, fun hi => Int.not_le.1 fun hc => c2 ⟨hi, hc⟩, by omega, by omega⟩
theorem arcE_some {np : Int} {l : List Ac} {i : Nat} {r : Int} (h : arcE np l i = some r) : r ≠ 0 := by
  unfold arcE at h
  by_cases c1 : (l.getD i zA).f0 < 0 ∨ (l.getD i zA).f0 ≥ np
  · rw [if_pos c1] at h; cases h; decide
  · rw [if_neg c1] at h
    by_cases c2 : 0 < i ∧ (l.getD (i - 1) zA).f0 ≥ (l.getD i zA).f0
    · rw [if_pos c2] at h; cases h; decide
    · rw [if_neg c2] at h
      by_cases c3 : (l.getD i zA).f1 < 1 ∨ (l.getD i zA).f1 > 99
      · rw [if_pos c3] at h; cases h; decide
      · rw [if_neg c3] at h; cases h
theorem arcsE_zero {np : Int} {l : List Ac} (h : arcsE np l = 0) : ∀ i, i < l.length → 0 ≤ (l.getD i zA).f0 ∧ (l.getD i zA).f0 < np ∧ (0 < i → (l.getD (i - 1) zA).f0 < (l.getD i zA).f0) ∧ 1 ≤ (l.getD i zA).f1 ∧ (l.getD i zA).f1 ≤ 99 := by
  intro i hi
  unfold arcsE at h
  rcases first_cases (arcE np l) 0 l.length with ⟨_, h2⟩ | ⟨j, _, h2, _⟩
  · exact arcE_none (h2 i hi)
  · rw [h] at h2
    exact absurd rfl (arcE_some h2)
theorem arcs_lt {np : Int} {l : List Ac} (h : arcsE np l = 0) {i j : Nat} (hij : i < j) (hj : j < l.length) : (l.getD i zA).f0 < (l.getD j zA).f0 := by
  obtain ⟨d, rfl⟩ : ∃ d, j = i + 1 + d := ⟨j - (i + 1), by omega⟩
  induction d with
  | zero => have := (arcsE_zero h (i + 1) hj).2.2.1 (by omega); simpa using this
  | succ d ih =>
    have h1 := ih (by omega) (by omega)
    have h2 := (arcsE_zero h (i + 1 + (d + 1)) hj).2.2.1 (by omega)
    rw [show i + 1 + (d + 1) - 1 = i + 1 + d by omega] at h2
    omega
/-- The weight of a place in a list without errors: positive exactly for the places of the list. -/
theorem weight_pos {np : Int} {l : List Ac} (h : arcsE np l = 0) (p : Int) : weightS l p > 0 ↔ p ∈ l.map (·.f0) := by
  unfold weightS
  rcases first_cases (fun i => if (l.getD i zA).f0 = p then some (l.getD i zA).f1 else none) 0 l.length with ⟨h1, h2⟩ | ⟨j, h1, h2, _⟩
  · rw [h1]
    constructor
    · intro hh; exact absurd hh (by decide)
    · intro hm
      obtain ⟨a, ha, rfl⟩ := List.mem_map.1 hm
      obtain ⟨i, hi, rfl⟩ := List.getElem_of_mem ha
      have := h2 i hi
      rw [List.getD_eq_getElem?_getD, List.getElem?_eq_getElem hi] at this
      simp at this
  · by_cases c : (l.getD j zA).f0 = p
    · simp only [c, if_true] at h2
      have := arcsE_zero h j h1
      constructor
      · intro _; exact List.mem_map.2 ⟨_, getD_mem l zA h1, c⟩
      · intro _; rw [← Option.some.inj h2]; omega
    · simp only [c, if_false] at h2; cases h2
theorem weight_nn {np : Int} {l : List Ac} (h : arcsE np l = 0) (p : Int) : 0 ≤ weightS l p ∧ weightS l p ≤ 99 := by
  unfold weightS
  rcases first_cases (fun i => if (l.getD i zA).f0 = p then some (l.getD i zA).f1 else none) 0 l.length with ⟨h1, h2⟩ | ⟨j, h1, h2, _⟩
  · rw [h1]; decide
  · by_cases c : (l.getD j zA).f0 = p
    · simp only [c, if_true] at h2
      have := arcsE_zero h j h1
      rw [← Option.some.inj h2]; omega
    · simp only [c, if_false] at h2; cases h2
end Go.Proofs.Ytboonibkibhmhaa.Pl
namespace Go.Proofs.Ytboonibkibhmhaa.Pure
open Go.RowKit Go.Proofs.Ytboonibkibhmhaa.P Go.Proofs.Ytboonibkibhmhaa.Pl Go.Proofs.YtboonibkibhmhaaW.PrintWords
theorem NetKnows (nm : ByteArray) (ps : List Pla) (ts : List Tra) {w : Prop} (_h : w) : ∃ k, petrinetlaw09_NetKnows.f k nm ps ts = some true := by
  refine Ev.rounds (g := fun k => petrinetlaw09_NetKnows.f k nm ps ts) ?_
  unfold petrinetlaw09_NetKnows.f
  refine Ev.bind lives ?_
  simp only [↓reduceIte]
  refine Ev.bind (small_ev nm ps ts) ?_
  have idle : ∀ nm ps ts, Ev (fun k => petrinetlaw09_NetKnows.j0 k true nm ps ts) true := fun nm ps ts => Ev.one (fun k => by simp only [petrinetlaw09_NetKnows.j0]; rw [if_pos trivial])
  cases hs : smallS nm ps ts with
  | false =>
    simp only [smallR, Bool.false_eq_true, ↓reduceIte]
    exact idle _ _ _
  | true =>
    have hS := smallS_true hs
    have hT := hS.thin
    have hp := hS.p
    have ht := hS.t
    simp only [smallR, ↓reduceIte]
    refine Ev.bind (check_ev nm hT) ?_
    cases hv : validS nm ps ts with
    | false =>
      have e : ((checkS nm ps ts).1 != 0) = true := by unfold validS at hv; rw [bne, hv]; rfl
      rw [e]
      exact idle _ _ _
    | true =>
      have e : ((checkS nm ps ts).1 != 0) = false := by unfold validS at hv; rw [bne, hv]; rfl
      rw [e]
      have V := validS_iff.1 hv
      refine Ev.step (fun k => by simp only [petrinetlaw09_NetKnows.j0]; rw [if_neg Bool.false_ne_true]) ?_
      refine Ev.bind (initial_ev nm (by omega) hT) ?_
      rw [hv]
      simp only [initialS, ↓reduceIte, List.length_map]
      unfold net_Name.f
      rw [V.n]
      simp only [Option.bind_some]
      refine Ev.step (f := fun k => petrinetlaw09_NetKnows.l0 k (ps.map (·.f1)) ((0 : Nat) : Int) nm ps ts) (fun k => by simp only [petrinetlaw09_NetKnows.j1]; rw [if_neg (by decide)]; rfl) ?_
      have h1 : Ev (fun k => petrinetlaw09_NetKnows.l1 k ((0 : Nat) : Int) nm ps ts) true := by
        refine Ev_up (L := fun k i => petrinetlaw09_NetKnows.l1 k (i : Int) nm ps ts) (n := ts.length) (fun i hi hr => ?_) (Ev.one (fun k => by simp only [petrinetlaw09_NetKnows.l1]; rw [if_neg (by omega)]))
        refine Ev.step (fun k => by simp only [petrinetlaw09_NetKnows.l1]; rw [if_pos (by omega), if_pos (by omega), rdT, wrap_up hi (by omega)]) ?_
        refine Ev.bind (trans_ev nm _ (by omega) hT) ?_
        have e1 : transS (validS nm ps ts) ts (ts.getD i zT).f0 = (i : Int) := by
          rw [hv]; unfold transS; rw [if_pos rfl]
          exact first_at i hi (by rw [if_pos rfl]) (fun m hm => by rw [if_neg (V.trDiff hm hi)])
        rw [e1]
        simp only [↓reduceIte]
        refine Ev.bind (place_ev nm _ (by omega) hT) ?_
        have e2 : placeS (validS nm ps ts) ps (ts.getD i zT).f0 = -1 := by
          rw [hv]; unfold placeS; rw [if_pos rfl]
          exact first_all (fun m hm => by rw [if_neg (V.ptDiff hm hi)])
        rw [e2]
        simp only [↓reduceIte]
        unfold net_Name.f
        rw [(nmE_zero (V.trName hi).1).1]
        simp only [Option.bind_some, ↓reduceIte]
        exact hr
      refine Ev_up (L := fun k i => petrinetlaw09_NetKnows.l0 k (ps.map (·.f1)) (i : Int) nm ps ts) (n := ps.length) (fun i hi hr => ?_) (Ev.step (f := fun k => petrinetlaw09_NetKnows.l1 k ((0 : Nat) : Int) nm ps ts) (fun k => by simp only [petrinetlaw09_NetKnows.l0]; rw [if_neg (by omega)]; rfl) h1)
      refine Ev.step (fun k => by simp only [petrinetlaw09_NetKnows.l0]; rw [if_pos (by omega), if_pos (by omega), rdP, wrap_up hi (by omega)]) ?_
      refine Ev.bind (place_ev nm _ (by omega) hT) ?_
      have e1 : placeS (validS nm ps ts) ps (ps.getD i zP).f0 = (i : Int) := by
        rw [hv]; unfold placeS; rw [if_pos rfl]
        exact first_at i hi (by rw [if_pos rfl]) (fun m hm => by rw [if_neg (V.plDiff hm hi)])
      rw [e1]
      simp only [↓reduceIte]
      refine Ev.bind (trans_ev nm _ (by omega) hT) ?_
      have e2 : transS (validS nm ps ts) ts (ps.getD i zP).f0 = -1 := by
        rw [hv]; unfold transS; rw [if_pos rfl]
        exact first_all (fun m hm => by rw [if_neg (fun e => V.ptDiff hi hm e.symm)])
      rw [e2]
      simp only [↓reduceIte]
      have e3 : rd (ps.map (·.f1)) (i : Int) = (ps.getD i zP).f1 := by
        rw [rd_nat, List.getD_eq_getElem?_getD, List.getElem?_map, List.getD_eq_getElem?_getD, List.getElem?_eq_getElem hi]; rfl
      refine Ev.congr (f := fun k => (net_Name.f (ps.getD i zP).f0).bind fun t => if t = true then petrinetlaw09_NetKnows.l0 k (ps.map (·.f1)) ((i + 1 : Nat) : Int) nm ps ts else none) (fun k => by rw [if_pos (by simp only [List.length_map]; omega), if_pos e3]) ?_
      unfold net_Name.f
      rw [(nmE_zero (V.plName hi).1).1]
      simp only [Option.bind_some, ↓reduceIte]
      exact hr
end Go.Proofs.Ytboonibkibhmhaa.Pure
