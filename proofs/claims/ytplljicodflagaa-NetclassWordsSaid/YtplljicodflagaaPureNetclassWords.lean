/- The plain law of NetclassWords: for every net the law's function answers true, with rounds enough. -/
-- MERGED: the plain texts that it needs, in one
import Derived.Test.YtplljicodflagaaPx13
import Derived.Test.YtplljicodflagaaPx3
import Derived.Test.YtplljicodflagaaVAll
import Derived.Test.YtplljicodflagaaPx1
import Derived.Test.YtplljicodflagaaPx2
import Derived.Test.YtplljicodflagaaPx11
import Derived.Laws.Strings
import Derived.WideShapes
import Derived.Test.YtplljicodflagaaPx7
import Derived.Test.YtplljicodflagaaPx5
import Derived.Test.YtplljicodflagaaPx6
import Derived.Test.YtplljicodflagaaPx9
import Derived.Test.YtplljicodflagaaPx8
import Derived.Test.YtplljicodflagaaPx0
/- Plain lemmas: loops that count, lists read and written by whole numbers. -/
namespace Go.Proofs.Ytplljicodflagaa.Pl
open Go.RowKit Go.Proofs.YtplljicodflagaaW.PrintWords Go.Proofs.YtplljicodflagaaW.PrintMore

theorem wrap_ok {x : Int} (h0 : -9223372036854775808 ≤ x) (h1 : x ≤ 9223372036854775807) : wrap64 x = x := by unfold wrap64; omega
theorem wrap_up {i n : Nat} (h : i < n) (hn : n ≤ 9223372036854775807) : wrap64 ((i : Int) + 1) = ((i + 1 : Nat) : Int) := by rw [wrap_ok (by omega) (by omega)]; omega

theorem Ev.uniq {α : Type} {g : Nat → Option α} {a b : α} (h : Ev g a) (k : Ev g b) : a = b := by
  obtain ⟨K, h⟩ := h
  obtain ⟨L, k⟩ := k
  have h1 := h (max K L) (Nat.le_max_left _ _)
  rw [k (max K L) (Nat.le_max_right _ _)] at h1
  exact (Option.some.inj h1).symm
theorem Ev.some {α : Type} (r : α) : Ev (fun _ => Option.some r) r := ⟨0, fun _ _ => rfl⟩
theorem Ev.one {α : Type} {g : Nat → Option α} {r : α} (h : ∀ k, g (k + 1) = Option.some r) : Ev g r := Ev.step h (Ev.some r)

/-- A loop that counts up to n: what is kept. -/
theorem Ev_for {σ ρ : Type} {l : Nat → σ → Int → Option ρ} {n : Nat} {inv : Nat → σ → Prop}
    (step : ∀ (i : Nat) s, i < n → inv i s → ∃ s', inv (i + 1) s' ∧ ∀ r, Ev (fun k => l k s' ((i + 1 : Nat) : Int)) r → Ev (fun k => l k s (i : Int)) r)
    {i : Nat} (hi : i ≤ n) {s : σ} (hs : inv i s) : ∃ s', inv n s' ∧ ∀ r, Ev (fun k => l k s' (n : Int)) r → Ev (fun k => l k s (i : Int)) r := by
  obtain ⟨d, hd⟩ : ∃ d, n - i = d := ⟨_, rfl⟩
  induction d generalizing i s with
  | zero =>
    have : i = n := by omega
    subst this
    exact ⟨s, hs, fun r h => h⟩
  | succ d ih =>
    obtain ⟨s1, h1, k1⟩ := step i s (by omega) hs
    obtain ⟨s2, h2, k2⟩ := ih (by omega) h1 (by omega)
    exact ⟨s2, h2, fun r h => k1 r (k2 r h)⟩


/-- The least of those below n that have a property, if there is one. -/
theorem least_or (p : Nat → Prop) : ∀ n : Nat, (∃ v, v < n ∧ p v ∧ ∀ w, w < v → ¬ p w) ∨ ∀ v, v < n → ¬ p v
  | 0 => .inr fun v h => absurd h (Nat.not_lt_zero _)
  | n + 1 => by
    rcases least_or p n with ⟨v, h1, h2, h3⟩ | h
    · exact .inl ⟨v, by omega, h2, h3⟩
    · by_cases hp : p n
      · exact .inl ⟨n, by omega, hp, h⟩
      · refine .inr fun v hv => ?_
        by_cases e : v = n
        · rw [e]; exact hp
        · exact h v (by omega)

section
variable {α : Type}
theorem rd_nat (xs : List Int) (i : Nat) : rd xs (i : Int) = xs.getD i 0 := by simp [rd]
theorem rdOf_nat (d : α) (xs : List α) (i : Nat) : rdOf d xs (i : Int) = xs.getD i d := by simp [rdOf]
theorem getD_set (xs : List α) (i j : Nat) (x d : α) (h : i < xs.length) : (xs.set i x).getD j d = if j = i then x else xs.getD j d := by
  simp only [List.getD_eq_getElem?_getD, List.getElem?_set]
  by_cases e : i = j
  · subst e; simp [h]
  · simp [e, Ne.symm e]
theorem rdOf_set (d : α) (xs : List α) (i j : Int) (x : α) (h0 : 0 ≤ i) (h1 : i < xs.length) (j0 : 0 ≤ j) : rdOf d (xs.set i.toNat x) j = if j = i then x else rdOf d xs j := by
  unfold rdOf
  rw [getD_set _ _ _ _ _ (by omega)]
  by_cases e : j = i
  · subst e; simp
  · rw [if_neg e, if_neg (by omega)]
theorem rd_set (xs : List Int) (i j x : Int) (h0 : 0 ≤ i) (h1 : i < xs.length) (j0 : 0 ≤ j) : rd (xs.set i.toNat x) j = if j = i then x else rd xs j := rdOf_set (0 : Int) xs i j x h0 h1 j0
theorem rdOf_app (d : α) (xs : List α) (x : α) (j : Int) (j0 : 0 ≤ j) : rdOf d (xs ++ [x]) j = if j = xs.length then x else rdOf d xs j := by
  unfold rdOf
  simp only [List.getD_eq_getElem?_getD, List.getElem?_append]
  by_cases e : j = xs.length
  · subst e; simp
  · rw [if_neg e]
    by_cases h : j.toNat < xs.length
    · simp [h]
    · rw [if_neg h]
      have h2 : ¬ j.toNat - xs.length < 1 := by omega
      simp [List.getElem?_eq_none (show ([x] : List α).length ≤ j.toNat - xs.length by simp; omega), List.getElem?_eq_none (show xs.length ≤ j.toNat by omega)]
theorem rd_app (xs : List Int) (x j : Int) (j0 : 0 ≤ j) : rd (xs ++ [x]) j = if j = xs.length then x else rd xs j := rdOf_app (0 : Int) xs x j j0
theorem rd_mem {xs : List Int} {i : Int} (h0 : 0 ≤ i) (h1 : i < xs.length) : rd xs i ∈ xs := by
  unfold rd
  rw [List.getD_eq_getElem?_getD, List.getElem?_eq_getElem (show i.toNat < xs.length by omega)]
  exact List.getElem_mem _
theorem mem_rd {xs : List Int} {x : Int} (h : x ∈ xs) : ∃ i : Nat, i < xs.length ∧ rd xs (i : Int) = x := by
  obtain ⟨i, hi, he⟩ := List.getElem_of_mem h
  exact ⟨i, hi, by rw [rd_nat, List.getD_eq_getElem?_getD, List.getElem?_eq_getElem hi]; exact he⟩
theorem ext_rd {a b : List Int} (hl : a.length = b.length) (h : ∀ i : Nat, i < a.length → rd a (i : Int) = rd b (i : Int)) : a = b := by
  refine List.ext_getElem hl (fun i h1 h2 => ?_)
  have := h i h1
  rw [rd_nat, rd_nat, List.getD_eq_getElem?_getD, List.getD_eq_getElem?_getD, List.getElem?_eq_getElem h1, List.getElem?_eq_getElem h2] at this
  exact this
theorem ext_rdOf (d : α) {a b : List α} (hl : a.length = b.length) (h : ∀ i : Nat, i < a.length → rdOf d a (i : Int) = rdOf d b (i : Int)) : a = b := by
  refine List.ext_getElem hl (fun i h1 h2 => ?_)
  have := h i h1
  rw [rdOf_nat, rdOf_nat, List.getD_eq_getElem?_getD, List.getD_eq_getElem?_getD, List.getElem?_eq_getElem h1, List.getElem?_eq_getElem h2] at this
  exact this
end
end Go.Proofs.Ytplljicodflagaa.Pl
/- Plain lemmas: loops that count through a list, the first place that ends them. -/
namespace Go.Proofs.Ytplljicodflagaa.Pl
open Go.RowKit Go.Proofs.YtplljicodflagaaW.PrintWords Go.Proofs.YtplljicodflagaaW.PrintMore

/-- The first answer of p from place i on, through d places; e if there is none. -/
def firstOr {ρ : Type} (p : Nat → Option ρ) (e : ρ) : Nat → Nat → ρ
  | _, 0 => e
  | i, d + 1 => match p i with | some r => r | none => firstOr p e (i + 1) d
theorem firstOr_cases {ρ : Type} (p : Nat → Option ρ) (e : ρ) : ∀ (d i : Nat), (firstOr p e i d = e ∧ ∀ j, i ≤ j → j < i + d → p j = none) ∨ ∃ j, i ≤ j ∧ j < i + d ∧ p j = some (firstOr p e i d) ∧ ∀ m, i ≤ m → m < j → p m = none
  | 0, i => .inl ⟨rfl, fun j h1 h2 => by omega⟩
  | d + 1, i => by
    unfold firstOr
    cases h : p i with
    | some r => exact .inr ⟨i, Nat.le_refl _, by omega, h, fun m h1 h2 => by omega⟩
    | none =>
      rcases firstOr_cases p e d (i + 1) with ⟨h1, h2⟩ | ⟨j, h1, h2, h3, h4⟩
      · refine .inl ⟨h1, fun j j1 j2 => ?_⟩
        by_cases hj : j = i
        · rw [hj]; exact h
        · exact h2 j (by omega) (by omega)
      · refine .inr ⟨j, by omega, by omega, h3, fun m m1 m2 => ?_⟩
        by_cases hm : m = i
        · rw [hm]; exact h
        · exact h4 m (by omega) m2
theorem firstOr_all {ρ : Type} {p : Nat → Option ρ} {e : ρ} : ∀ {d i : Nat}, (∀ j, i ≤ j → j < i + d → p j = none) → firstOr p e i d = e
  | 0, _, _ => rfl
  | d + 1, i, h => by
    unfold firstOr
    rw [h i (Nat.le_refl _) (by omega)]
    exact firstOr_all (fun j h1 h2 => h j (by omega) (by omega))
theorem firstOr_at {ρ : Type} {p : Nat → Option ρ} {e r : ρ} : ∀ {d i : Nat} (j : Nat), i ≤ j → j < i + d → p j = some r → (∀ m, i ≤ m → m < j → p m = none) → firstOr p e i d = r
  | 0, _, _, h1, h2, _, _ => by omega
  | d + 1, i, j, h1, h2, h3, h4 => by
    unfold firstOr
    by_cases hj : j = i
    · subst hj; rw [h3]
    · rw [h4 i (Nat.le_refl _) (by omega)]
      exact firstOr_at j (by omega) (by omega) h3 (fun m m1 m2 => h4 m (by omega) m2)
/-- The first answer of p below n; e if there is none. -/
def first {ρ : Type} (p : Nat → Option ρ) (e : ρ) (n : Nat) : ρ := firstOr p e 0 n
theorem first_cases {ρ : Type} (p : Nat → Option ρ) (e : ρ) (n : Nat) : (first p e n = e ∧ ∀ j, j < n → p j = none) ∨ ∃ j, j < n ∧ p j = some (first p e n) ∧ ∀ m, m < j → p m = none := by
  rcases firstOr_cases p e n 0 with ⟨h1, h2⟩ | ⟨j, _, h2, h3, h4⟩
  · exact .inl ⟨h1, fun j h => h2 j (Nat.zero_le _) (by omega)⟩
  · exact .inr ⟨j, by omega, h3, fun m h => h4 m (Nat.zero_le _) h⟩
theorem first_all {ρ : Type} {p : Nat → Option ρ} {e : ρ} {n : Nat} (h : ∀ j, j < n → p j = none) : first p e n = e := firstOr_all (fun j _ h2 => h j (by omega))
theorem first_at {ρ : Type} {p : Nat → Option ρ} {e r : ρ} {n : Nat} (j : Nat) (h2 : j < n) (h3 : p j = some r) (h4 : ∀ m, m < j → p m = none) : first p e n = r := firstOr_at j (Nat.zero_le _) (by omega) h3 (fun m _ h => h4 m h)

/-- A loop that counts up to n and ends where p answers. -/
theorem Ev_firstFrom {ρ : Type} {L : Nat → Nat → Option ρ} {n : Nat} (p : Nat → Option ρ) {e : ρ}
    (go : ∀ i, i < n → p i = none → ∀ r, Ev (fun k => L k (i + 1)) r → Ev (fun k => L k i) r)
    (stop : ∀ i r, i < n → p i = some r → Ev (fun k => L k i) r) (fin : (∀ j, j < n → p j = none) → Ev (fun k => L k n) e) :
    ∀ (d i : Nat), i + d = n → (∀ j, j < i → p j = none) → Ev (fun k => L k i) (firstOr p e i d) := by
  intro d
  induction d with
  | zero => intro i hi hb; obtain rfl : i = n := by omega
            exact fin hb
  | succ d ih =>
    intro i hi hb
    unfold firstOr
    cases h : p i with
    | some r => exact stop i r (by omega) h
    | none => exact go i (by omega) h _ (ih (i + 1) (by omega) (fun j hj => by
        by_cases e : j = i
        · rw [e]; exact h
        · exact hb j (by omega)))
theorem Ev_first' {ρ : Type} {L : Nat → Nat → Option ρ} {n : Nat} (p : Nat → Option ρ) {e : ρ}
    (go : ∀ i, i < n → p i = none → ∀ r, Ev (fun k => L k (i + 1)) r → Ev (fun k => L k i) r)
    (stop : ∀ i r, i < n → p i = some r → Ev (fun k => L k i) r) (fin : (∀ j, j < n → p j = none) → Ev (fun k => L k n) e) : Ev (fun k => L k 0) (first p e n) :=
  Ev_firstFrom p go stop fin n 0 (by omega) (fun j h => by omega)
theorem Ev_first {ρ : Type} {L : Nat → Nat → Option ρ} {n : Nat} (p : Nat → Option ρ) {e : ρ}
    (go : ∀ i, i < n → p i = none → ∀ r, Ev (fun k => L k (i + 1)) r → Ev (fun k => L k i) r)
    (stop : ∀ i r, i < n → p i = some r → Ev (fun k => L k i) r) (fin : Ev (fun k => L k n) e) : Ev (fun k => L k 0) (first p e n) :=
  Ev_first' p go stop (fun _ => fin)
/-- A loop that counts up to n. -/
theorem Ev_up {ρ : Type} {L : Nat → Nat → Option ρ} {n : Nat} {r : ρ}
    (go : ∀ i, i < n → Ev (fun k => L k (i + 1)) r → Ev (fun k => L k i) r) (fin : Ev (fun k => L k n) r) : Ev (fun k => L k 0) r := by
  have h : ∀ d i, i + d = n → Ev (fun k => L k i) r := by
    intro d
    induction d with
    | zero => intro i hi; obtain rfl : i = n := by omega
              exact fin
    | succ d ih => intro i hi; exact go i (by omega) (ih (i + 1) (by omega))
  exact h n 0 (by omega)

theorem take_map_succ {α β : Type} (l : List α) (f : α → β) (z : α) {i : Nat} (h : i < l.length) : (l.take (i + 1)).map f = (l.take i).map f ++ [f (l.getD i z)] := by
  rw [List.take_succ_eq_append_getElem h, List.map_append, List.getD_eq_getElem?_getD, List.getElem?_eq_getElem h]
  rfl
theorem getD_mem {α : Type} (l : List α) (z : α) {i : Nat} (h : i < l.length) : l.getD i z ∈ l := by
  rw [List.getD_eq_getElem?_getD, List.getElem?_eq_getElem h]
  exact List.getElem_mem h
theorem filter_range_succ (q : Nat → Bool) (i : Nat) : (List.range (i + 1)).filter q = if q i = true then (List.range i).filter q ++ [i] else (List.range i).filter q := by
  rw [List.range_succ, List.filter_append]
  by_cases h : q i = true
  · rw [if_pos h, List.filter_cons_of_pos h]; rfl
  · rw [if_neg h, List.filter_cons_of_neg h]; simp
theorem Ev.stepn {α : Type} {g f : Nat → Option α} {r : α} (m : Nat) (h : ∀ k, g (k + m) = f k) (hf : Ev f r) : Ev g r := by
  obtain ⟨K, hK⟩ := hf
  exact ⟨K + m, fun k hk => by obtain ⟨d, rfl⟩ : ∃ d, k = d + m := ⟨k - m, by omega⟩; rw [h]; exact hK d (by omega)⟩
theorem ite_or {α : Type} (c1 c2 : Prop) [Decidable c1] [Decidable c2] (g : Bool → α) : (if c1 then g true else g (decide c2)) = g (decide (c1 ∨ c2)) := by
  by_cases h : c1
  · rw [if_pos h, decide_eq_true (Or.inl h)]
  · rw [if_neg h]; congr 1; simp [h]
theorem ite_or2 {α : Type} (c1 c2 : Prop) [Decidable c1] [Decidable c2] (a b : α) : (if c1 then a else if c2 then a else b) = if c1 ∨ c2 then a else b := by
  by_cases h : c1
  · rw [if_pos h, if_pos (Or.inl h)]
  · by_cases h2 : c2
    · rw [if_neg h, if_pos h2, if_pos (Or.inr h2)]
    · rw [if_neg h, if_neg h2, if_neg (fun h3 => h3.elim h h2)]
theorem of_ite_none {α : Type} {c : Prop} [Decidable c] {a : α} (h : (if c then none else some a) = none) : c := Classical.byContradiction fun hn => by rw [if_neg hn] at h; cases h
theorem of_ite_some {α : Type} {c : Prop} [Decidable c] {a r : α} (h : (if c then none else some a) = some r) : ¬ c ∧ a = r := by
  by_cases hc : c
  · rw [if_pos hc] at h; cases h
  · rw [if_neg hc] at h; exact ⟨hc, Option.some.inj h⟩
/-- What a round answers: an end, or what follows. -/
def stepO {ρ : Type} (a : Option ρ) (b : Option ρ) : Option ρ := match a with | some r => some r | none => b
/-- A loop whose round is one equation. -/
theorem Ev_loop {ρ : Type} {L : Nat → Nat → Option ρ} {n : Nat} (m : Nat) (p : Nat → Option ρ) {e : ρ}
    (step : ∀ k i, i < n → L (k + m) i = stepO (p i) (L k (i + 1))) (fin : Ev (fun k => L k n) e) : Ev (fun k => L k 0) (first p e n) :=
  Ev_first p (fun i hi hp r hr => Ev.stepn m (fun k => by rw [step k i hi, hp]; rfl) hr) (fun i r hi hp => Ev.stepn m (f := fun _ => some r) (fun k => by rw [step k i hi, hp]; rfl) (Ev.some r)) fin
theorem first_any {ρ : Type} (c : Nat → Prop) [DecidablePred c] (a e : ρ) (n : Nat) : first (fun j => if c j then some a else none) e n = if ∃ j, j < n ∧ c j then a else e := by
  rcases first_cases (fun j => if c j then some a else none) e n with ⟨h1, h2⟩ | ⟨j, h1, h2, h3⟩
  · rw [h1, if_neg]
    rintro ⟨j, hj, hc⟩
    have := h2 j hj
    simp [hc] at this
  · have hc : c j := by
      refine Classical.byContradiction fun hn => ?_
      simp [hn] at h2
    rw [if_pos ⟨j, h1, hc⟩]
    simp [hc] at h2
    exact h2.symm
theorem any_take {α β : Type} (l : List α) (f : α → β) (q : β → Bool) (z : α) {i : Nat} (hi : i ≤ l.length) : ((l.take i).map f).any q = true ↔ ∃ j, j < i ∧ q (f (l.getD j z)) = true := by
  rw [List.any_eq_true]
  constructor
  · rintro ⟨x, hx, hq⟩
    obtain ⟨y, hy, rfl⟩ := List.mem_map.1 hx
    obtain ⟨j, hj, rfl⟩ := List.getElem_of_mem hy
    rw [List.length_take] at hj
    refine ⟨j, by omega, ?_⟩
    rw [List.getElem_take] at hq
    rw [List.getD_eq_getElem?_getD, List.getElem?_eq_getElem (by omega)]
    exact hq
  · rintro ⟨j, hj, hq⟩
    refine ⟨f (l.getD j z), List.mem_map.2 ⟨l.getD j z, ?_, rfl⟩, hq⟩
    rw [List.getD_eq_getElem?_getD, List.getElem?_eq_getElem (by omega)]
    exact List.mem_take_iff_getElem.2 ⟨j, by omega, rfl⟩
theorem any_all {α β : Type} (l : List α) (f : α → β) (q : β → Bool) (z : α) : (l.map f).any q = true ↔ ∃ j, j < l.length ∧ q (f (l.getD j z)) = true := by
  have := any_take l f q z (Nat.le_refl l.length)
  rwa [List.take_length] at this
end Go.Proofs.Ytplljicodflagaa.Pl
/- The check of fixed results of chapter 13. -/
namespace Go.Proofs.Ytplljicodflagaa.Pure
open Go.RowKit Go.Proofs.Ytplljicodflagaa.P Go.Proofs.Ytplljicodflagaa.Pl Go.Proofs.YtplljicodflagaaW.PrintWords
theorem alive : Ev (fun k => petrinetlaw13_alive.f k) true := Ev.of (fun k => petrinetlaw13_alive.mono k) (k := 60) (by decide +kernel)
theorem alive' : Ev (fun k => (petrinetlaw13_alive.f k).bind fun t => some t) true := Ev.bind alive (Ev.some _)
end Go.Proofs.Ytplljicodflagaa.Pure
/- What a net's check answers, told plainly; and that the program's check answers it. -/
namespace Go.Proofs.Ytplljicodflagaa.Pl
open Go.RowKit Go.Proofs.Ytplljicodflagaa.P Go.Proofs.YtplljicodflagaaW.PrintWords Go.Proofs.YtplljicodflagaaW.PrintMore

abbrev Pla := S46
abbrev Tra := S41
abbrev Ac := S43
abbrev zP : Pla := z46
abbrev zT : Tra := z41
abbrev zA : Ac := z43
theorem rdP (xs : List Pla) (i : Nat) : rd_T46 xs (i : Int) = xs.getD i zP := by simp [rd_T46]
theorem rdT (xs : List Tra) (i : Nat) : rd_T41 xs (i : Int) = xs.getD i zT := by simp [rd_T41]
theorem rdA (xs : List Ac) (i : Nat) : rd_T43 xs (i : Int) = xs.getD i zA := by simp [rd_T43]
theorem rdAs (xs : List (List Ac)) (i : Nat) : rd_L4 xs (i : Int) = xs.getD i [] := by simp [rd_L4]

/-! ### arcs -/
def arcE (np : Int) (l : List Ac) (i : Nat) : Option Int :=
  if (l.getD i zA).f0 < 0 ∨ (l.getD i zA).f0 ≥ np then some 7 else if 0 < i ∧ (l.getD (i - 1) zA).f0 ≥ (l.getD i zA).f0 then some 8 else if (l.getD i zA).f1 < 1 ∨ (l.getD i zA).f1 > 99 then some 9 else none
def arcsE (np : Int) (l : List Ac) : Int := first (arcE np l) 0 l.length
theorem checkArcs_step (k : Nat) (l : List Ac) (np : Int) (i : Nat) (hi : i < l.length) (hl : l.length ≤ 1000000) :
    net_checkArcs.l0 (k + 3) l np l (l.length : Int) (i : Int) = stepO (arcE np l i) (net_checkArcs.l0 k l np l (l.length : Int) ((i + 1 : Nat) : Int)) := by
  simp only [net_checkArcs.l0]
  rw [if_pos (by omega), if_pos (by omega), if_pos (by omega), rdA, ite_or _ _ (fun b => net_checkArcs.j1 (k + 2) l np (i : Int) l (l.length : Int) (i : Int) b (l.getD i zA).f0 (l.getD i zA).f1)]
  unfold arcE
  by_cases c1 : (l.getD i zA).f0 < 0 ∨ (l.getD i zA).f0 ≥ np
  · rw [decide_eq_true c1, if_pos c1]; simp only [net_checkArcs.j1, ↓reduceIte, stepO]
  · rw [decide_eq_false c1, if_neg c1]
    have e2 : ∀ b : Bool, net_checkArcs.j2 (k + 1) l np l (l.length : Int) (i : Int) b (l.getD i zA).f0 (l.getD i zA).f1 = if b = true then some 8 else if (l.getD i zA).f1 < 1 ∨ (l.getD i zA).f1 > 99 then some 9 else net_checkArcs.l0 k l np l (l.length : Int) ((i + 1 : Nat) : Int) := by
      intro b
      simp only [net_checkArcs.j2]
      rw [wrap_up hi (by omega), ite_or2]
    simp only [net_checkArcs.j1]
    rw [if_neg Bool.false_ne_true]
    by_cases c2 : 0 < i
    · rw [if_pos (by omega), if_pos (by rw [wrap_ok (by omega) (by omega)]; omega), if_pos (by rw [wrap_ok (by omega) (by omega)]; omega), wrap_ok (x := (i : Int) - 1) (by omega) (by omega), show ((i : Int) - 1) = ((i - 1 : Nat) : Int) by omega, rdA, e2]
      by_cases c3 : (l.getD (i - 1) zA).f0 ≥ (l.getD i zA).f0
      · rw [decide_eq_true c3, if_pos rfl, if_pos ⟨c2, c3⟩]; rfl
      · rw [decide_eq_false c3, if_neg Bool.false_ne_true, if_neg (show ¬ (0 < i ∧ (l.getD (i - 1) zA).f0 ≥ (l.getD i zA).f0) from fun h => c3 h.2)]
        by_cases d : (l.getD i zA).f1 < 1 ∨ (l.getD i zA).f1 > 99
        · rw [if_pos d, if_pos d]; rfl
        · rw [if_neg d, if_neg d]; rfl
    · rw [if_neg (by omega), e2, if_neg Bool.false_ne_true, if_neg (show ¬ (0 < i ∧ (l.getD (i - 1) zA).f0 ≥ (l.getD i zA).f0) from fun h => c2 h.1)]
      by_cases d : (l.getD i zA).f1 < 1 ∨ (l.getD i zA).f1 > 99
      · rw [if_pos d, if_pos d]; rfl
      · rw [if_neg d, if_neg d]; rfl
theorem checkArcs_ev (l : List Ac) (np : Int) (hl : l.length ≤ 1000000) : Ev (fun k => net_checkArcs.f k l np) (arcsE np l) :=
  Ev_loop (L := fun k i => net_checkArcs.l0 k l np l (l.length : Int) (i : Int)) 3 (arcE np l) (fun k i hi => checkArcs_step k l np i hi hl)
    (Ev.one (fun k => by simp only [net_checkArcs.l0]; rw [if_neg (by omega)]))

/-! ### a transition -/
def transE (np : Int) (t : Tra) : Int := if t.f4 < 0 ∨ t.f4 > 9 then 1 else if arcsE np t.f1 ≠ 0 then arcsE np t.f1 else if arcsE np t.f2 ≠ 0 then arcsE np t.f2 else arcsE np t.f3
def ThinT (t : Tra) : Prop := t.f0.size ≤ 1000000 ∧ t.f1.length ≤ 1000000 ∧ t.f2.length ≤ 1000000 ∧ t.f3.length ≤ 1000000
theorem checkTrans_ev (t : Tra) (np : Int) (ht : ThinT t) : Ev (fun k => net_checkTrans.f k t.f0 t.f1 t.f2 t.f3 t.f4 np) (transE np t) := by
  have e0 : ∀ k, net_checkTrans.f k t.f0 t.f1 t.f2 t.f3 t.f4 np = net_checkTrans.j0 k np (decide (t.f4 < 0 ∨ t.f4 > 9)) t.f0 t.f1 t.f2 t.f3 t.f4 := fun k => by
    unfold net_checkTrans.f
    exact ite_or _ _ (fun b => net_checkTrans.j0 k np b t.f0 t.f1 t.f2 t.f3 t.f4)
  refine Ev.congr e0 ?_
  unfold transE
  by_cases c : t.f4 < 0 ∨ t.f4 > 9
  · rw [decide_eq_true c, if_pos c]
    exact Ev.one (fun k => by simp only [net_checkTrans.j0, ↓reduceIte])
  · rw [decide_eq_false c, if_neg c]
    refine Ev.step (f := fun k => net_checkTrans.l0 k np [t.f1, t.f2, t.f3] 3 ((0 : Nat) : Int)) (fun k => by simp only [net_checkTrans.j0]; rw [if_neg Bool.false_ne_true]; rfl) ?_
    have hm : ∀ i, i < 3 → ([t.f1, t.f2, t.f3].getD i []).length ≤ 1000000 := fun i hi => by
      obtain ⟨_, h1, h2, h3⟩ := ht
      rcases i with _ | _ | _ | i
      · exact h1
      · exact h2
      · exact h3
      · omega
    have h := Ev_first (L := fun k i => net_checkTrans.l0 k np [t.f1, t.f2, t.f3] 3 (i : Int)) (n := 3) (fun i => if arcsE np ([t.f1, t.f2, t.f3].getD i []) = 0 then none else some (arcsE np ([t.f1, t.f2, t.f3].getD i []))) (e := 0)
      (fun i hi hp r hr => Ev.step (f := fun k => (net_checkArcs.f k ([t.f1, t.f2, t.f3].getD i []) np).bind fun e => if e = 0 then net_checkTrans.l0 k np [t.f1, t.f2, t.f3] 3 ((i + 1 : Nat) : Int) else some e) (fun k => by
        simp only [net_checkTrans.l0]
        rw [if_pos (by omega), if_pos (by omega), if_pos (by simp only [List.length_cons, List.length_nil]; omega), rdAs, wrap_up hi (by omega)]) (by
          refine Ev.bind (checkArcs_ev _ np (hm i hi)) ?_
          have h0 : arcsE np ([t.f1, t.f2, t.f3].getD i []) = 0 := of_ite_none hp
          simp only [h0, ↓reduceIte]
          exact hr))
      (fun i r hi hp => Ev.step (f := fun k => (net_checkArcs.f k ([t.f1, t.f2, t.f3].getD i []) np).bind fun e => if e = 0 then net_checkTrans.l0 k np [t.f1, t.f2, t.f3] 3 ((i + 1 : Nat) : Int) else some e) (fun k => by
        simp only [net_checkTrans.l0]
        rw [if_pos (by omega), if_pos (by omega), if_pos (by simp only [List.length_cons, List.length_nil]; omega), rdAs, wrap_up hi (by omega)]) (by
          refine Ev.bind (checkArcs_ev _ np (hm i hi)) ?_
          obtain ⟨h0, rfl⟩ := of_ite_some hp
          simp only [h0, ↓reduceIte]
          exact Ev.some _))
      (Ev.one (fun k => by simp only [net_checkTrans.l0]; rw [if_neg (by omega)]))
    have e3 : first (fun i => if arcsE np ([t.f1, t.f2, t.f3].getD i []) = 0 then none else some (arcsE np ([t.f1, t.f2, t.f3].getD i []))) 0 3 = if arcsE np t.f1 ≠ 0 then arcsE np t.f1 else if arcsE np t.f2 ≠ 0 then arcsE np t.f2 else arcsE np t.f3 := by
      unfold first firstOr firstOr firstOr firstOr
      simp only [List.getD_cons_zero, List.getD_cons_succ]
      by_cases h1 : arcsE np t.f1 = 0
      · by_cases h2 : arcsE np t.f2 = 0
        · by_cases h3 : arcsE np t.f3 = 0 <;> simp [h1, h2, h3]
        · simp [h1, h2]
      · simp [h1]
    rw [← e3]
    exact h

/-! ### the check -/
def nmE (ns : List ByteArray) (s : ByteArray) : Int := if nameB s = true then (if (ns.any fun o => o.toList == s.toList) = true then 6 else 0) else 5
def plR (ps : List Pla) (i : Nat) : Int := if nmE ((ps.take i).map (·.f0)) (ps.getD i zP).f0 ≠ 0 then nmE ((ps.take i).map (·.f0)) (ps.getD i zP).f0 else placeE (ps.getD i zP).f1 (ps.getD i zP).f2
def trR (ps : List Pla) (ts : List Tra) (i : Nat) : Int := if nmE (ps.map (·.f0) ++ (ts.take i).map (·.f0)) (ts.getD i zT).f0 ≠ 0 then nmE (ps.map (·.f0) ++ (ts.take i).map (·.f0)) (ts.getD i zT).f0 else transE (ps.length : Int) (ts.getD i zT)
def pF (ps : List Pla) (i : Nat) : Option (Int × Int) := if plR ps i = 0 then none else some (plR ps i, (i : Int))
def tF (ps : List Pla) (ts : List Tra) (i : Nat) : Option (Int × Int) := if trR ps ts i = 0 then none else some (trR ps ts i, (ps.length : Int) + (i : Int))
def checkS (nm : ByteArray) (ps : List Pla) (ts : List Tra) : Int × Int :=
  if nameB nm = true then (if (ps.length : Int) < 1 ∨ (24 : Int) < (ps.length : Int) ∨ (24 : Int) < (ts.length : Int) then (2, 0) else first (pF ps) (first (tF ps ts) (0, 0) ts.length) ps.length) else (5, 0)
def validS (nm : ByteArray) (ps : List Pla) (ts : List Tra) : Bool := (checkS nm ps ts).1 == 0
/-- What is asked of a net's size for its parts to be told. -/
def Thin (ts : List Tra) : Prop := ∀ t ∈ ts, ThinT t
theorem Thin.at {ts : List Tra} (h : Thin ts) {i : Nat} (hi : i < ts.length) : ThinT (ts.getD i zT) := h _ (getD_mem ts zT hi)
theorem addM_ev {ns : List ByteArray} {s : ByteArray} (h : ns.length < 1000000) : addM ns s = some (nmE ns s, if nmE ns s = 0 then ns ++ [s] else ns) := by
  unfold addM nmE
  by_cases h1 : nameB s = true
  · by_cases h2 : (ns.any fun o => o.toList == s.toList) = true
    · simp [h1, h2]
    · rw [if_pos h1, if_neg h2, if_pos h, if_pos h1, if_neg h2]; simp
  · simp [h1]
theorem check_ts {ps : List Pla} {ts : List Tra} (hp : ps.length ≤ 24) (ht : ts.length ≤ 24) (hT : Thin ts) : Ev (fun k => net_Check.l1 k ps ts (ps.map (·.f0)) 0) (first (tF ps ts) (0, 0) ts.length) := by
  have hlen : ∀ i, i ≤ ts.length → (ps.map (·.f0) ++ (ts.take i).map (·.f0)).length < 1000000 := fun i hi => by simp only [List.length_append, List.length_map, List.length_take]; omega
  have stp : ∀ i, i < ts.length → ∀ k, net_Check.l1 (k + 1) ps ts (ps.map (·.f0) ++ (ts.take i).map (·.f0)) (i : Int) = if nmE (ps.map (·.f0) ++ (ts.take i).map (·.f0)) (ts.getD i zT).f0 = 0 then ((net_checkTrans.f k (ts.getD i zT).f0 (ts.getD i zT).f1 (ts.getD i zT).f2 (ts.getD i zT).f3 (ts.getD i zT).f4 (ps.length : Int)).bind fun e => if e = 0 then net_Check.l1 k ps ts (ps.map (·.f0) ++ (ts.take (i + 1)).map (·.f0)) ((i + 1 : Nat) : Int) else some (e, (ps.length : Int) + (i : Int))) else some (nmE (ps.map (·.f0) ++ (ts.take i).map (·.f0)) (ts.getD i zT).f0, (ps.length : Int) + (i : Int)) := fun i hi k => by
    simp only [net_Check.l1]
    rw [if_pos (by omega), if_pos (by omega), rdT, addM_ev (hlen i (by omega)), wrap_up hi (by omega), wrap_ok (x := (ps.length : Int) + (i : Int)) (by omega) (by omega)]
    simp only [Option.bind_some]
    by_cases h0 : nmE (ps.map (·.f0) ++ (ts.take i).map (·.f0)) (ts.getD i zT).f0 = 0
    · rw [if_pos h0, if_pos h0, if_pos h0, List.append_assoc, ← take_map_succ ts (fun t => t.f0) zT hi]
    · rw [if_neg h0, if_neg h0]
  have h := Ev_first (L := fun k i => net_Check.l1 k ps ts (ps.map (·.f0) ++ (ts.take i).map (·.f0)) (i : Int)) (n := ts.length) (tF ps ts) (e := ((0 : Int), (0 : Int)))
    (fun i hi hf r hr => Ev.step (stp i hi) (by
      have hz : trR ps ts i = 0 := of_ite_none hf
      by_cases h0 : nmE (ps.map (·.f0) ++ (ts.take i).map (·.f0)) (ts.getD i zT).f0 = 0
      · unfold trR at hz
        rw [if_neg (by simpa using h0)] at hz
        simp only [h0, ↓reduceIte]
        refine Ev.bind (checkTrans_ev _ _ (hT.at hi)) ?_
        simp only [hz, ↓reduceIte]
        exact hr
      · unfold trR at hz
        rw [if_pos h0] at hz
        exact absurd hz h0))
    (fun i r hi hf => Ev.step (stp i hi) (by
      obtain ⟨hz, rfl⟩ := of_ite_some hf
      by_cases h0 : nmE (ps.map (·.f0) ++ (ts.take i).map (·.f0)) (ts.getD i zT).f0 = 0
      · have e : trR ps ts i = transE (ps.length : Int) (ts.getD i zT) := by unfold trR; rw [if_neg (by simpa using h0)]
        rw [e] at hz ⊢
        simp only [h0, ↓reduceIte]
        refine Ev.bind (checkTrans_ev _ _ (hT.at hi)) ?_
        simp only [hz, ↓reduceIte]
        exact Ev.some _
      · have e : trR ps ts i = nmE (ps.map (·.f0) ++ (ts.take i).map (·.f0)) (ts.getD i zT).f0 := by unfold trR; rw [if_pos h0]
        rw [e]
        simp only [h0, ↓reduceIte]
        exact Ev.some _))
    (Ev.one (fun k => by simp only [net_Check.l1]; rw [if_neg (by omega)]))
  simpa using h
theorem check_ps {ps : List Pla} {ts : List Tra} (hp : ps.length ≤ 24) (ht : ts.length ≤ 24) (hT : Thin ts) : Ev (fun k => net_Check.l0 k ps ts [] 0) (first (pF ps) (first (tF ps ts) (0, 0) ts.length) ps.length) := by
  have hlen : ∀ i, i ≤ ps.length → ((ps.take i).map (·.f0)).length < 1000000 := fun i hi => by simp only [List.length_map, List.length_take]; omega
  have stp : ∀ i, i < ps.length → ∀ k, net_Check.l0 (k + 1) ps ts ((ps.take i).map (·.f0)) (i : Int) = if nmE ((ps.take i).map (·.f0)) (ps.getD i zP).f0 = 0 then (if placeE (ps.getD i zP).f1 (ps.getD i zP).f2 = 0 then net_Check.l0 k ps ts ((ps.take (i + 1)).map (·.f0)) ((i + 1 : Nat) : Int) else some (placeE (ps.getD i zP).f1 (ps.getD i zP).f2, (i : Int))) else some (nmE ((ps.take i).map (·.f0)) (ps.getD i zP).f0, (i : Int)) := fun i hi k => by
    simp only [net_Check.l0]
    rw [if_pos (by omega), if_pos (by omega), rdP, addM_ev (hlen i (by omega)), wrap_up hi (by omega)]
    simp only [Option.bind_some, net_checkPlace.f]
    by_cases h0 : nmE ((ps.take i).map (·.f0)) (ps.getD i zP).f0 = 0
    · rw [if_pos h0, if_pos h0, if_pos h0, ← take_map_succ ps (fun t => t.f0) zP hi]
    · rw [if_neg h0, if_neg h0]
  have h := Ev_first (L := fun k i => net_Check.l0 k ps ts ((ps.take i).map (·.f0)) (i : Int)) (n := ps.length) (pF ps) (e := first (tF ps ts) (0, 0) ts.length)
    (fun i hi hf r hr => Ev.step (stp i hi) (by
      have hz : plR ps i = 0 := of_ite_none hf
      by_cases h0 : nmE ((ps.take i).map (·.f0)) (ps.getD i zP).f0 = 0
      · unfold plR at hz
        rw [if_neg (by simpa using h0)] at hz
        simp only [h0, hz, ↓reduceIte]
        exact hr
      · unfold plR at hz
        rw [if_pos h0] at hz
        exact absurd hz h0))
    (fun i r hi hf => Ev.step (stp i hi) (by
      obtain ⟨hz, rfl⟩ := of_ite_some hf
      by_cases h0 : nmE ((ps.take i).map (·.f0)) (ps.getD i zP).f0 = 0
      · have e : plR ps i = placeE (ps.getD i zP).f1 (ps.getD i zP).f2 := by unfold plR; rw [if_neg (by simpa using h0)]
        rw [e] at hz ⊢
        simp only [h0, hz, ↓reduceIte]
        exact Ev.some _
      · have e : plR ps i = nmE ((ps.take i).map (·.f0)) (ps.getD i zP).f0 := by unfold plR; rw [if_pos h0]
        rw [e]
        simp only [h0, ↓reduceIte]
        exact Ev.some _))
    (by
      refine Ev.step (f := fun k => net_Check.l1 k ps ts (ps.map (·.f0)) 0) (fun k => ?_) (check_ts hp ht hT)
      simp only [net_Check.l0]
      rw [if_neg (by omega), List.take_length])
  simpa using h
theorem check_ev (nm : ByteArray) {ps : List Pla} {ts : List Tra} (hT : Thin ts) : Ev (fun k => net_Check.f k nm ps ts) (checkS nm ps ts) := by
  unfold net_Check.f checkS
  by_cases h1 : nameB nm = true
  · by_cases h2 : (ps.length : Int) < 1 ∨ (24 : Int) < (ps.length : Int) ∨ (24 : Int) < (ts.length : Int)
    · simp only [h1, h2, ↓reduceIte]; exact Ev.some _
    · simp only [h1, h2, ↓reduceIte]
      exact check_ps (by omega) (by omega) hT
  · simp only [h1]; exact Ev.some _
theorem valid_ev (nm : ByteArray) {ps : List Pla} {ts : List Tra} (hT : Thin ts) : Ev (fun k => net_valid.f k nm ps ts) (validS nm ps ts) := by
  unfold net_valid.f
  exact Ev.bind (check_ev nm hT) (Ev.some _)
end Go.Proofs.Ytplljicodflagaa.Pl
/- The small nets. -/
namespace Go.Proofs.Ytplljicodflagaa.Pl
open Go.RowKit Go.Proofs.Ytplljicodflagaa.P Go.Proofs.YtplljicodflagaaW.PrintWords Go.Proofs.YtplljicodflagaaW.PrintMore

def smT (t : Tra) : Option Bool := if (t.f0.size : Int) > 20 ∨ (t.f1.length : Int) > 26 ∨ (t.f2.length : Int) > 26 ∨ (t.f3.length : Int) > 26 then some false else none
def smP (p : Pla) : Option Bool := if (p.f0.size : Int) > 20 then some false else none
def smallS (nm : ByteArray) (ps : List Pla) (ts : List Tra) : Bool :=
  if (ps.length : Int) > 26 ∨ (ts.length : Int) > 26 ∨ (nm.size : Int) > 20 then false else first (fun i => smP (ps.getD i zP)) (first (fun i => smT (ts.getD i zT)) true ts.length) ps.length
structure SmallN (nm : ByteArray) (ps : List Pla) (ts : List Tra) : Prop where
  p : ps.length ≤ 26
  t : ts.length ≤ 26
  n : nm.size ≤ 20
  pn : ∀ i, i < ps.length → (ps.getD i zP).f0.size ≤ 20
  tn : ∀ i, i < ts.length → (ts.getD i zT).f0.size ≤ 20 ∧ (ts.getD i zT).f1.length ≤ 26 ∧ (ts.getD i zT).f2.length ≤ 26 ∧ (ts.getD i zT).f3.length ≤ 26
theorem smallS_true {nm : ByteArray} {ps : List Pla} {ts : List Tra} (h : smallS nm ps ts = true) : SmallN nm ps ts := by
  unfold smallS at h
  by_cases c : (ps.length : Int) > 26 ∨ (ts.length : Int) > 26 ∨ (nm.size : Int) > 20
  · rw [if_pos c] at h; cases h
  · rw [if_neg c] at h
    rcases first_cases (fun i => smP (ps.getD i zP)) (first (fun i => smT (ts.getD i zT)) true ts.length) ps.length with ⟨h1, h2⟩ | ⟨j, h1, h2, _⟩
    · rw [h1] at h
      rcases first_cases (fun i => smT (ts.getD i zT)) true ts.length with ⟨k1, k2⟩ | ⟨j, k1, k2, _⟩
      · refine ⟨by omega, by omega, by omega, fun i hi => ?_, fun i hi => ?_⟩
        · have := h2 i hi
          unfold smP at this
          by_cases d : ((ps.getD i zP).f0.size : Int) > 20
          · rw [if_pos d] at this; cases this
          · omega
        · have := k2 i hi
          unfold smT at this
          by_cases d : ((ts.getD i zT).f0.size : Int) > 20 ∨ ((ts.getD i zT).f1.length : Int) > 26 ∨ ((ts.getD i zT).f2.length : Int) > 26 ∨ ((ts.getD i zT).f3.length : Int) > 26
          · rw [if_pos d] at this; cases this
          · omega
      · rw [h] at k2
        unfold smT at k2
        by_cases d : ((ts.getD j zT).f0.size : Int) > 20 ∨ ((ts.getD j zT).f1.length : Int) > 26 ∨ ((ts.getD j zT).f2.length : Int) > 26 ∨ ((ts.getD j zT).f3.length : Int) > 26
        · rw [if_pos d] at k2; cases k2
        · rw [if_neg d] at k2; cases k2
    · rw [h] at h2
      unfold smP at h2
      by_cases d : ((ps.getD j zP).f0.size : Int) > 20
      · rw [if_pos d] at h2; cases h2
      · rw [if_neg d] at h2; cases h2
theorem SmallN.thin {nm : ByteArray} {ps : List Pla} {ts : List Tra} (h : SmallN nm ps ts) : Thin ts := fun t ht => by
  obtain ⟨i, hi, rfl⟩ := List.getElem_of_mem ht
  have := h.tn i hi
  rw [List.getD_eq_getElem?_getD, List.getElem?_eq_getElem hi] at this
  obtain ⟨a, b, c, d⟩ := this
  exact ⟨Nat.le_trans a (by decide), Nat.le_trans b (by decide), Nat.le_trans c (by decide), Nat.le_trans d (by decide)⟩
def smallR (b : Bool) (nm : ByteArray) (ps : List Pla) (ts : List Tra) : ByteArray × List Pla × List Tra × Bool := if b = true then (nm, ps, ts, true) else (⟨#[]⟩, [], [], false)
theorem first_map {α β : Type} (f : α → β) (p : Nat → Option α) (e : α) (n : Nat) : first (fun i => (p i).map f) (f e) n = f (first p e n) := by
  rcases first_cases p e n with ⟨h1, h2⟩ | ⟨j, h1, h2, h3⟩
  · rw [h1]; exact first_all (fun j hj => by rw [h2 j hj]; rfl)
  · exact first_at j h1 (by rw [h2]; rfl) (fun m hm => by rw [h3 m hm]; rfl)
theorem small_ev (nm : ByteArray) (ps : List Pla) (ts : List Tra) : Ev (fun k => r09_Small.f k nm ps ts) (smallR (smallS nm ps ts) nm ps ts) := by
  have e0 : ∀ k, r09_Small.f k nm ps ts = r09_Small.j0 k (decide ((ps.length : Int) > 26 ∨ (ts.length : Int) > 26 ∨ (nm.size : Int) > 20)) nm ps ts := fun k => by
    unfold r09_Small.f
    rw [ite_or ((ts.length : Int) > 26) _ (fun b => r09_Small.j0 k b nm ps ts)]
    exact ite_or _ _ (fun b => r09_Small.j0 k b nm ps ts)
  refine Ev.congr e0 ?_
  unfold smallS
  by_cases c : (ps.length : Int) > 26 ∨ (ts.length : Int) > 26 ∨ (nm.size : Int) > 20
  · rw [decide_eq_true c, if_pos c]
    exact Ev.one (fun k => by simp only [r09_Small.j0, ↓reduceIte]; rfl)
  · rw [decide_eq_false c, if_neg c]
    refine Ev.step (f := fun k => r09_Small.l0 k ((0 : Nat) : Int) nm ps ts) (fun k => by simp only [r09_Small.j0]; rw [if_neg Bool.false_ne_true]; rfl) ?_
    have ht := Ev_loop (L := fun k i => r09_Small.l1 k (i : Int) nm ps ts) (n := ts.length) 1 (fun i => (smT (ts.getD i zT)).map (fun b => smallR b nm ps ts)) (e := smallR true nm ps ts)
      (fun k i hi => by
        simp only [r09_Small.l1]
        rw [if_pos (by omega), if_pos (by omega), rdT, wrap_up hi (by omega), ite_or2, ite_or2, ite_or2]
        unfold smT
        by_cases d : ((ts.getD i zT).f0.size : Int) > 20 ∨ ((ts.getD i zT).f1.length : Int) > 26 ∨ ((ts.getD i zT).f2.length : Int) > 26 ∨ ((ts.getD i zT).f3.length : Int) > 26
        · rw [if_pos d, if_pos (by omega)]; rfl
        · rw [if_neg d, if_neg (by omega)]; rfl)
      (Ev.one (fun k => by simp only [r09_Small.l1]; rw [if_neg (by omega)]; rfl))
    have hp := Ev_loop (L := fun k i => r09_Small.l0 k (i : Int) nm ps ts) (n := ps.length) 1 (fun i => (smP (ps.getD i zP)).map (fun b => smallR b nm ps ts)) (e := first (fun i => (smT (ts.getD i zT)).map (fun b => smallR b nm ps ts)) (smallR true nm ps ts) ts.length)
      (fun k i hi => by
        simp only [r09_Small.l0]
        rw [if_pos (by omega), if_pos (by omega), rdP, wrap_up hi (by omega)]
        unfold smP
        by_cases d : ((ps.getD i zP).f0.size : Int) > 20
        · rw [if_pos d, if_pos d]; rfl
        · rw [if_neg d, if_neg d]; rfl)
      (Ev.step (f := fun k => r09_Small.l1 k ((0 : Nat) : Int) nm ps ts) (fun k => by simp only [r09_Small.l0]; rw [if_neg (by omega)]; rfl) ht)
    rw [first_map (fun b => smallR b nm ps ts), first_map (fun b => smallR b nm ps ts)] at hp
    exact hp
end Go.Proofs.Ytplljicodflagaa.Pl
/- What the functions over nets answer, told plainly. -/
namespace Go.Proofs.Ytplljicodflagaa.Pl
open Go.RowKit Go.Proofs.Ytplljicodflagaa.P Go.Proofs.YtplljicodflagaaW.PrintWords Go.Proofs.YtplljicodflagaaW.PrintMore

def weightS (l : List Ac) (p : Int) : Int := first (fun i => if (l.getD i zA).f0 = p then some (l.getD i zA).f1 else none) 0 l.length
def preS (v : Bool) (ts : List Tra) (t p : Int) : Int := if v = true then (if t < 0 ∨ t ≥ (ts.length : Int) then 0 else weightS (ts.getD t.toNat zT).f1 p) else 0
def postS (v : Bool) (ts : List Tra) (t p : Int) : Int := if v = true then (if t < 0 ∨ t ≥ (ts.length : Int) then 0 else weightS (ts.getD t.toNat zT).f2 p) else 0
def inputsS (v : Bool) (ts : List Tra) (t : Int) : List Int := if v = true then (if t < 0 ∨ t ≥ (ts.length : Int) then [] else (ts.getD t.toNat zT).f1.map (·.f0)) else []
def outputsS (v : Bool) (ts : List Tra) (t : Int) : List Int := if v = true then (if t < 0 ∨ t ≥ (ts.length : Int) then [] else (ts.getD t.toNat zT).f2.map (·.f0)) else []
def plainP (ps : List Pla) (e : Bool) : Bool := first (fun i => if (ps.getD i zP).f2 ≠ 0 then some false else none) e ps.length
def plainT (ts : List Tra) (e : Bool) : Bool := first (fun i => if ((ts.getD i zT).f3.length : Int) > 0 ∨ (ts.getD i zT).f4 ≠ 0 then some false else none) e ts.length
def plainS (v : Bool) (ps : List Pla) (ts : List Tra) : Bool := plainT ts (plainP ps v)
theorem plainP_eq (ps : List Pla) (e : Bool) : plainP ps e = if ∃ i, i < ps.length ∧ (ps.getD i zP).f2 ≠ 0 then false else e := first_any _ _ _ _
theorem plainT_eq (ts : List Tra) (e : Bool) : plainT ts e = if ∃ i, i < ts.length ∧ (((ts.getD i zT).f3.length : Int) > 0 ∨ (ts.getD i zT).f4 ≠ 0) then false else e := first_any _ _ _ _
theorem plain_swap (v : Bool) (ps : List Pla) (ts : List Tra) : plainS v ps ts = if v = true then plainP ps (plainT ts true) else false := by
  unfold plainS
  rw [plainT_eq, plainP_eq, plainP_eq, plainT_eq]
  cases v <;> by_cases c1 : ∃ i, i < ps.length ∧ (ps.getD i zP).f2 ≠ 0 <;> by_cases c2 : ∃ i, i < ts.length ∧ (((ts.getD i zT).f3.length : Int) > 0 ∨ (ts.getD i zT).f4 ≠ 0) <;> simp only [c1, c2, if_true, if_false, Bool.false_eq_true, ite_self]
def ordinaryS (v : Bool) (ts : List Tra) : Bool := if (ts.all fun t => (t.f1.all fun a => a.f1 == 1) && (t.f2.all fun a => a.f1 == 1)) = true then v else false
def producersS (v : Bool) (ts : List Tra) (p : Int) : List Int := if v = true then ((List.range ts.length).filter fun t : Nat => decide (weightS (ts.getD t zT).f2 p > 0)).map (fun t : Nat => (t : Int)) else []
def consumersS (v : Bool) (ts : List Tra) (p : Int) : List Int := if v = true then ((List.range ts.length).filter fun t : Nat => decide (weightS (ts.getD t zT).f1 p > 0)).map (fun t : Nat => (t : Int)) else []

/-! ### equal nets -/
theorem first_bool {n : Nat} (c : Nat → Bool) : first (fun i => if c i = true then some false else none) true n = true ↔ ∀ i, i < n → c i = false := by
  rw [first_any (fun i => c i = true)]
  constructor
  · intro h i hi
    refine Bool.eq_false_iff.2 fun hc => ?_
    rw [if_pos ⟨i, hi, hc⟩] at h
    cases h
  · intro h
    rw [if_neg]
    rintro ⟨i, hi, hc⟩
    rw [h i hi] at hc
    cases hc
end Go.Proofs.Ytplljicodflagaa.Pl
/- Whether a net is plain: the program's text. -/
namespace Go.Proofs.Ytplljicodflagaa.Pl
set_option linter.unusedVariables false
open Go.RowKit Go.Proofs.Ytplljicodflagaa.P Go.Proofs.YtplljicodflagaaW.PrintWords Go.Proofs.YtplljicodflagaaW.PrintMore

theorem plain_ev (nm : ByteArray) {ps : List Pla} {ts : List Tra} (hp : ps.length ≤ 1000000) (ht : ts.length ≤ 1000000) (hT : Thin ts) : Ev (fun k => net_Plain.f k nm ps ts) (plainS (validS nm ps ts) ps ts) := by
  have h1 := Ev_loop (L := fun k i => net_Plain.l1 k ps (ps.length : Int) (i : Int) nm ps ts) (n := ps.length) 1 (fun i => if (ps.getD i zP).f2 ≠ 0 then some false else none) (e := validS nm ps ts)
    (fun k i hi => by
      simp only [net_Plain.l1]
      rw [if_pos (by omega), if_pos (by omega), if_pos (by omega), rdP, wrap_up hi (by omega)]
      by_cases c : (ps.getD i zP).f2 = 0
      · rw [if_pos c, if_neg (by simpa using c)]; rfl
      · rw [if_neg c, if_pos c]; rfl)
    (Ev.step (f := fun k => (net_valid.f k nm ps ts).bind fun t => some t) (fun k => by simp only [net_Plain.l1]; rw [if_neg (by omega)]) (Ev.bind (valid_ev nm hT) (Ev.some _)))
  exact Ev_loop (L := fun k i => net_Plain.l0 k ts (ts.length : Int) (i : Int) nm ps ts) (n := ts.length) 1 (fun i => if ((ts.getD i zT).f3.length : Int) > 0 ∨ (ts.getD i zT).f4 ≠ 0 then some false else none) (e := plainP ps (validS nm ps ts))
    (fun k i hi => by
      simp only [net_Plain.l0]
      rw [if_pos (by omega), if_pos (by omega), if_pos (by omega), rdT, wrap_up hi (by omega)]
      by_cases c1 : ((ts.getD i zT).f3.length : Int) > 0
      · rw [if_pos c1, if_pos (Or.inl c1)]; rfl
      · rw [if_neg c1]
        by_cases c2 : (ts.getD i zT).f4 = 0
        · rw [if_pos c2, if_neg (fun h => h.elim c1 (fun h => h c2))]; rfl
        · rw [if_neg c2, if_pos (Or.inr c2)]; rfl)
    (Ev.step (f := fun k => net_Plain.l1 k ps (ps.length : Int) ((0 : Nat) : Int) nm ps ts) (fun k => by simp only [net_Plain.l0]; rw [if_neg (by omega)]; rfl) h1)
end Go.Proofs.Ytplljicodflagaa.Pl
/- Whether a net is plain, ordinary: the program's text. -/
namespace Go.Proofs.Ytplljicodflagaa.Pl
set_option linter.unusedVariables false
open Go.RowKit Go.Proofs.Ytplljicodflagaa.P Go.Proofs.YtplljicodflagaaW.PrintWords Go.Proofs.YtplljicodflagaaW.PrintMore

theorem ordinary_ev (nm : ByteArray) {ps : List Pla} {ts : List Tra} (hT : Thin ts) : Ev (fun k => net_Ordinary.f k nm ps ts) (ordinaryS (validS nm ps ts) ts) := by
  unfold net_Ordinary.f ordinaryS
  by_cases c : (ts.all ordB) = true
  · have c2 : (ts.all fun t => (t.f1.all fun a => a.f1 == 1) && (t.f2.all fun a => a.f1 == 1)) = true := c
    simp only [c, c2, ↓reduceIte]
    exact valid_ev nm hT
  · have c2 : ¬ (ts.all fun t => (t.f1.all fun a => a.f1 == 1) && (t.f2.all fun a => a.f1 == 1)) = true := c
    simp only [c, c2]
    exact Ev.some _
end Go.Proofs.Ytplljicodflagaa.Pl
/- What the arcs of a list say: the weight. -/
namespace Go.Proofs.Ytplljicodflagaa.Pl
set_option linter.unusedVariables false
open Go.RowKit Go.Proofs.Ytplljicodflagaa.P Go.Proofs.YtplljicodflagaaW.PrintWords Go.Proofs.YtplljicodflagaaW.PrintMore

theorem weight_ev (l : List Ac) (p : Int) (hl : l.length ≤ 1000000) : Ev (fun k => net_weight.f k l p) (weightS l p) :=
  Ev_loop (L := fun k i => net_weight.l0 k p l (l.length : Int) (i : Int)) 1 _ (fun k i hi => by
    simp only [net_weight.l0]
    rw [if_pos (by omega), if_pos (by omega), if_pos (by omega), rdA, wrap_up hi (by omega)]
    by_cases c : (l.getD i zA).f0 = p
    · rw [if_pos c, if_pos c]; rfl
    · rw [if_neg c, if_neg c]; rfl) (Ev.one (fun k => by simp only [net_weight.l0]; rw [if_neg (by omega)]))
end Go.Proofs.Ytplljicodflagaa.Pl
/- What the arcs of a list say: the places. -/
namespace Go.Proofs.Ytplljicodflagaa.Pl
set_option linter.unusedVariables false
open Go.RowKit Go.Proofs.Ytplljicodflagaa.P Go.Proofs.YtplljicodflagaaW.PrintWords Go.Proofs.YtplljicodflagaaW.PrintMore

theorem targets_ev (l : List Ac) (hl : l.length ≤ 1000000) : Ev (fun k => net_targets.f k l) (l.map (·.f0)) := by
  have h := Ev_up (L := fun k i => net_targets.l0 k ((l.take i).map (·.f0)) l (l.length : Int) (i : Int)) (n := l.length) (r := l.map (·.f0))
    (fun i hi hr => Ev.step (fun k => by
      simp only [net_targets.l0]
      rw [if_pos (by omega), if_pos (by omega), if_pos (by omega), if_pos (by simp only [List.length_map, List.length_take]; omega), rdA, wrap_up hi (by omega), ← take_map_succ l (fun a => a.f0) zA hi]) hr)
    (Ev.one (fun k => by simp only [net_targets.l0]; rw [if_neg (by omega), List.take_length]))
  unfold net_targets.f
  simpa using h
end Go.Proofs.Ytplljicodflagaa.Pl
/- What the arcs of a list say. -/
namespace Go.Proofs.Ytplljicodflagaa.Pl
set_option linter.unusedVariables false
open Go.RowKit Go.Proofs.Ytplljicodflagaa.P Go.Proofs.YtplljicodflagaaW.PrintWords Go.Proofs.YtplljicodflagaaW.PrintMore

end Go.Proofs.Ytplljicodflagaa.Pl
/- The places of a list that a test takes, one by one. -/
namespace Go.Proofs.Ytplljicodflagaa.Pl
open Go.RowKit
theorem filter_len (q : Nat → Bool) (i : Nat) : (((List.range i).filter q).map (fun t : Nat => (t : Int))).length ≤ i := by
  rw [List.length_map]
  exact Nat.le_trans (List.length_filter_le _ _) (by rw [List.length_range]; exact Nat.le_refl _)
theorem filter_next (q : Nat → Bool) (i : Nat) : ((List.range (i + 1)).filter q).map (fun t : Nat => (t : Int)) = if q i = true then ((List.range i).filter q).map (fun t : Nat => (t : Int)) ++ [(i : Int)] else ((List.range i).filter q).map (fun t : Nat => (t : Int)) := by
  rw [filter_range_succ]
  by_cases h : q i = true
  · rw [if_pos h, if_pos h, List.map_append]; rfl
  · rw [if_neg h, if_neg h]
end Go.Proofs.Ytplljicodflagaa.Pl
/- Producers and consumers: the program's text. -/
namespace Go.Proofs.Ytplljicodflagaa.Pl
set_option linter.unusedVariables false
open Go.RowKit Go.Proofs.Ytplljicodflagaa.P Go.Proofs.YtplljicodflagaaW.PrintWords Go.Proofs.YtplljicodflagaaW.PrintMore

theorem producers_ev (nm : ByteArray) {ps : List Pla} {ts : List Tra} (p : Int) (ht : ts.length ≤ 1000000) (hT : Thin ts) : Ev (fun k => net_Producers.f k nm ps ts p) (producersS (validS nm ps ts) ts p) := by
  unfold net_Producers.f producersS
  refine Ev.bind (valid_ev nm hT) ?_
  by_cases hv : validS nm ps ts = true
  · simp only [hv, ↓reduceIte]
    exact Ev_up (L := fun k i => net_Producers.l0 k ts p (((List.range i).filter fun t : Nat => decide (weightS (ts.getD t zT).f2 p > 0)).map (fun t : Nat => (t : Int))) (i : Int)) (n := ts.length)
      (fun i hi hr => Ev.step (f := fun k => (net_weight.f k (ts.getD i zT).f2 p).bind fun t => if t > 0 then net_Producers.l0 k ts p ((((List.range i).filter fun t : Nat => decide (weightS (ts.getD t zT).f2 p > 0)).map (fun t : Nat => (t : Int))) ++ [(i : Int)]) ((i + 1 : Nat) : Int) else net_Producers.l0 k ts p (((List.range i).filter fun t : Nat => decide (weightS (ts.getD t zT).f2 p > 0)).map (fun t : Nat => (t : Int))) ((i + 1 : Nat) : Int)) (fun k => by
        simp only [net_Producers.l0]
        have := filter_len (fun t : Nat => decide (weightS (ts.getD t zT).f2 p > 0)) i
        rw [if_pos (by omega), if_pos (by omega), if_pos (by omega), rdT, wrap_up hi (by omega)]) (by
          refine Ev.bind (weight_ev _ p (hT.at hi).2.2.1) ?_
          rw [filter_next] at hr
          by_cases c : weightS (ts.getD i zT).f2 p > 0
          · simp only [c, decide_true, ↓reduceIte] at hr ⊢; exact hr
          · simp only [c, decide_false, ↓reduceIte, Bool.false_eq_true] at hr ⊢; exact hr))
      (Ev.one (fun k => by simp only [net_Producers.l0]; rw [if_neg (by omega)]))
  · simp only [hv]; exact Ev.some _
theorem consumers_ev (nm : ByteArray) {ps : List Pla} {ts : List Tra} (p : Int) (ht : ts.length ≤ 1000000) (hT : Thin ts) : Ev (fun k => net_Consumers.f k nm ps ts p) (consumersS (validS nm ps ts) ts p) := by
  unfold net_Consumers.f consumersS
  refine Ev.bind (valid_ev nm hT) ?_
  by_cases hv : validS nm ps ts = true
  · simp only [hv, ↓reduceIte]
    exact Ev_up (L := fun k i => net_Consumers.l0 k ts p (((List.range i).filter fun t : Nat => decide (weightS (ts.getD t zT).f1 p > 0)).map (fun t : Nat => (t : Int))) (i : Int)) (n := ts.length)
      (fun i hi hr => Ev.step (f := fun k => (net_weight.f k (ts.getD i zT).f1 p).bind fun t => if t > 0 then net_Consumers.l0 k ts p ((((List.range i).filter fun t : Nat => decide (weightS (ts.getD t zT).f1 p > 0)).map (fun t : Nat => (t : Int))) ++ [(i : Int)]) ((i + 1 : Nat) : Int) else net_Consumers.l0 k ts p (((List.range i).filter fun t : Nat => decide (weightS (ts.getD t zT).f1 p > 0)).map (fun t : Nat => (t : Int))) ((i + 1 : Nat) : Int)) (fun k => by
        simp only [net_Consumers.l0]
        have := filter_len (fun t : Nat => decide (weightS (ts.getD t zT).f1 p > 0)) i
        rw [if_pos (by omega), if_pos (by omega), if_pos (by omega), rdT, wrap_up hi (by omega)]) (by
          refine Ev.bind (weight_ev _ p (hT.at hi).2.1) ?_
          rw [filter_next] at hr
          by_cases c : weightS (ts.getD i zT).f1 p > 0
          · simp only [c, decide_true, ↓reduceIte] at hr ⊢; exact hr
          · simp only [c, decide_false, ↓reduceIte, Bool.false_eq_true] at hr ⊢; exact hr))
      (Ev.one (fun k => by simp only [net_Consumers.l0]; rw [if_neg (by omega)]))
  · simp only [hv]; exact Ev.some _

end Go.Proofs.Ytplljicodflagaa.Pl
/- Neighbours: the program's text. -/
namespace Go.Proofs.Ytplljicodflagaa.Pl
set_option linter.unusedVariables false
open Go.RowKit Go.Proofs.Ytplljicodflagaa.P Go.Proofs.YtplljicodflagaaW.PrintWords Go.Proofs.YtplljicodflagaaW.PrintMore

theorem inputs_ev (nm : ByteArray) {ps : List Pla} {ts : List Tra} (t : Int) (ht : ts.length ≤ 1000000) (hT : Thin ts) : Ev (fun k => net_Inputs.f k nm ps ts t) (inputsS (validS nm ps ts) ts t) := by
  unfold net_Inputs.f inputsS
  refine Ev.bind (valid_ev nm hT) ?_
  by_cases hv : validS nm ps ts = true
  · simp only [hv, ↓reduceIte]
    by_cases c : t < 0 ∨ t ≥ (ts.length : Int)
    · rw [if_pos c]
      exact Ev.congr (f := fun _ => some []) (fun k => by rw [ite_or2, if_pos c]) (Ev.some _)
    · rw [if_neg c]
      obtain ⟨i, rfl⟩ : ∃ i : Nat, t = i := ⟨t.toNat, by omega⟩
      have hi : i < ts.length := by omega
      refine Ev.congr (f := fun k => (net_targets.f k (ts.getD i zT).f1).bind fun x => some x) (fun k => by rw [ite_or2, if_neg c, if_pos (by omega), if_pos (by omega), rdT]) ?_
      exact Ev.bind (targets_ev _ (hT.at hi).2.1) (Ev.some _)
  · simp only [hv]; exact Ev.some _
theorem outputs_ev (nm : ByteArray) {ps : List Pla} {ts : List Tra} (t : Int) (ht : ts.length ≤ 1000000) (hT : Thin ts) : Ev (fun k => net_Outputs.f k nm ps ts t) (outputsS (validS nm ps ts) ts t) := by
  unfold net_Outputs.f outputsS
  refine Ev.bind (valid_ev nm hT) ?_
  by_cases hv : validS nm ps ts = true
  · simp only [hv, ↓reduceIte]
    by_cases c : t < 0 ∨ t ≥ (ts.length : Int)
    · rw [if_pos c]
      exact Ev.congr (f := fun _ => some []) (fun k => by rw [ite_or2, if_pos c]) (Ev.some _)
    · rw [if_neg c]
      obtain ⟨i, rfl⟩ : ∃ i : Nat, t = i := ⟨t.toNat, by omega⟩
      have hi : i < ts.length := by omega
      refine Ev.congr (f := fun k => (net_targets.f k (ts.getD i zT).f2).bind fun x => some x) (fun k => by rw [ite_or2, if_neg c, if_pos (by omega), if_pos (by omega), rdT]) ?_
      exact Ev.bind (targets_ev _ (hT.at hi).2.2.1) (Ev.some _)
  · simp only [hv]; exact Ev.some _
end Go.Proofs.Ytplljicodflagaa.Pl
/- The reference's names. -/
namespace Go.Proofs.Ytplljicodflagaa.Pl
open Go.RowKit Go.Proofs.Ytplljicodflagaa.P Go.Proofs.YtplljicodflagaaW.PrintWords Go.Proofs.YtplljicodflagaaW.PrintMore

/-! ### Name -/
set_option linter.unusedSimpArgs false in
theorem refname_step (k : Nat) (s : ByteArray) (i : Nat) (hi : i < s.size) (hs : s.size ≤ 1000000) :
    r09_Name.l0 (k + 1) s (i : Int) = stepO (if nameC (i : Int) (bt s (i : Int)) = true then none else some false) (r09_Name.l0 k s ((i + 1 : Nat) : Int)) := by
  simp only [r09_Name.l0]
  rw [if_pos (by omega), if_pos (by omega), wrap_up hi (by omega)]
  unfold nameC
  generalize bt s (i : Int) = c
  have e95 : (c == 95) = decide (c = 95) := by rw [Bool.eq_iff_iff]; simp
  have e46 : (c == 46) = decide (c = 46) := by rw [Bool.eq_iff_iff]; simp
  rw [e95, e46]
  have b7 : (0 : Int) < (i : Int) ↔ ¬ (i : Int) = 0 := by omega
  by_cases a1 : c ≥ 97 <;> by_cases a2 : c ≤ 122 <;> by_cases a3 : c = 95 <;> by_cases a4 : c ≥ 48 <;> by_cases a5 : c ≤ 57 <;> by_cases a6 : c = 46 <;> by_cases a7 : (i : Int) = 0 <;>
    first
    | (exfalso; omega)
    | (subst a3; simp [stepO]; done)
    | (subst a6
       have d7 : i = 0 := by omega
       simp [stepO, d7]; done)
    | (subst a6
       have d7 : ¬ i = 0 := by omega
       have d8 : 0 < i := by omega
       simp [stepO, d7, d8]; done)
    | (simp only [b7, a1, a2, a3, a4, a5, a6, a7, ge_iff_le.1 a1, ↓reduceIte, decide_true, decide_false, Bool.true_and, Bool.false_and, Bool.and_true, Bool.and_false, Bool.or_true, Bool.true_or, Bool.or_false, Bool.false_or, Bool.false_eq_true, not_true_eq_false, not_false_eq_true, stepO]; done)
    | (have c1 : ¬ 97 ≤ c := a1
       simp only [b7, a1, c1, a2, a3, a4, a5, a6, a7, ↓reduceIte, decide_true, decide_false, Bool.true_and, Bool.false_and, Bool.and_true, Bool.and_false, Bool.or_true, Bool.true_or, Bool.or_false, Bool.false_or, Bool.false_eq_true, not_true_eq_false, not_false_eq_true, stepO]; first | done | rfl)
theorem refname_ev (s : ByteArray) : Ev (fun k => r09_Name.f k s) (nameB s) := by
  have e0 : ∀ k, r09_Name.f k s = r09_Name.j0 k s (decide ((s.size : Int) < 1 ∨ (s.size : Int) > 16)) := fun k => by
    unfold r09_Name.f
    exact ite_or _ _ (fun b => r09_Name.j0 k s b)
  refine Ev.congr e0 ?_
  by_cases c : (s.size : Int) < 1 ∨ (s.size : Int) > 16
  · rw [decide_eq_true c]
    have hf : nameB s = false := by
      unfold nameB
      rcases c with c | c
      · rw [decide_eq_false (show ¬ 1 ≤ s.size by omega)]; rfl
      · rw [decide_eq_false (show ¬ s.size ≤ 16 by omega)]; simp
    rw [hf]
    exact Ev.one (fun k => by simp only [r09_Name.j0, ↓reduceIte])
  · rw [decide_eq_false c]
    refine Ev.step (f := fun k => r09_Name.l0 k s ((0 : Nat) : Int)) (fun k => by simp only [r09_Name.j0]; rw [if_neg Bool.false_ne_true]; rfl) ?_
    have h := Ev_loop (L := fun k i => r09_Name.l0 k s (i : Int)) (n := s.size) 1 (fun i => if nameC (i : Int) (bt s (i : Int)) = true then none else some false) (e := true)
      (fun k i hi => refname_step k s i hi (by omega)) (Ev.one (fun k => by simp only [r09_Name.l0]; rw [if_neg (by omega)]))
    have e : first (fun i => if nameC (i : Int) (bt s (i : Int)) = true then none else some false) true s.size = nameB s := by
      rcases first_cases (fun i => if nameC (i : Int) (bt s (i : Int)) = true then none else some false) true s.size with ⟨h1, h2⟩ | ⟨j, h1, h2, _⟩
      · rw [h1]
        exact (nameB_yes (by omega) (by omega) (fun i hi => of_ite_none (h2 i hi))).symm
      · obtain ⟨h3, h4⟩ := of_ite_some h2
        rw [← h4]
        exact (nameB_no h1 (Bool.eq_false_iff.2 h3)).symm
    rw [← e]
    exact h

end Go.Proofs.Ytplljicodflagaa.Pl
/- The reference's check answers the same. -/
namespace Go.Proofs.Ytplljicodflagaa.Pl
open Go.RowKit Go.Proofs.Ytplljicodflagaa.P Go.Proofs.YtplljicodflagaaW.PrintWords Go.Proofs.YtplljicodflagaaW.PrintMore

/-! ### a place -/
theorem nmE_loop (l : List ByteArray) (s : ByteArray) (h : nameB s = true) : nmE l s = if (l.any fun o => o.toList == s.toList) = true then 6 else 0 := by unfold nmE; rw [if_pos h]
theorem refplace_ev (nm : ByteArray) {ps : List Pla} (ts : List Tra) {i : Nat} (hi : i < ps.length) (hp : ps.length ≤ 1000000) : Ev (fun k => r09_place.f k nm ps ts (i : Int)) (plR ps i) := by
  have e0 : ∀ k, r09_place.f k nm ps ts (i : Int) = (r09_Name.f k (ps.getD i zP).f0).bind fun t => if t = true then r09_place.l0 k (i : Int) 0 nm ps ts (ps.getD i zP).f0 (ps.getD i zP).f1 (ps.getD i zP).f2 else some 5 := fun k => by
    unfold r09_place.f
    rw [if_pos (by omega), if_pos (by omega), rdP]
  refine Ev.congr e0 (Ev.bind (refname_ev _) ?_)
  unfold plR
  by_cases hn : nameB (ps.getD i zP).f0 = true
  · simp only [hn, ↓reduceIte]
    have hcap : Ev (fun k => r09_place.l0 k (i : Int) (i : Int) nm ps ts (ps.getD i zP).f0 (ps.getD i zP).f1 (ps.getD i zP).f2) (placeE (ps.getD i zP).f1 (ps.getD i zP).f2) := by
      refine Ev.stepn 2 (f := fun _ => some (placeE (ps.getD i zP).f1 (ps.getD i zP).f2)) (fun k => ?_) (Ev.some _)
      simp only [r09_place.l0]
      rw [if_neg (by omega), ite_or _ _ (fun b => r09_place.j1 (k + 1) b (ps.getD i zP).f0 (ps.getD i zP).f1 (ps.getD i zP).f2)]
      simp only [r09_place.j1]
      generalize (ps.getD i zP).f1 = x
      generalize (ps.getD i zP).f2 = c
      unfold placeE
      by_cases c1 : c < 0 ∨ c > 1048576
      · rw [decide_eq_true c1, if_pos rfl, if_pos c1]
      · rw [decide_eq_false c1, if_neg Bool.false_ne_true, if_neg c1]
        by_cases c2 : x < 0
        · rw [if_pos c2, if_pos (Or.inl (Or.inl c2))]
        · rw [if_neg c2]
          by_cases c3 : x > 1048576
          · rw [if_pos c3, if_pos (Or.inl (Or.inr c3))]
          · rw [if_neg c3]
            by_cases c4 : c = 0
            · rw [if_pos c4, if_neg (by omega)]
            · rw [if_neg c4]
              by_cases c5 : x > c
              · rw [if_pos c5, if_pos (Or.inr ⟨c4, c5⟩)]
              · rw [if_neg c5, if_neg (by omega)]
    have h := Ev_loop (L := fun k j => r09_place.l0 k (i : Int) (j : Int) nm ps ts (ps.getD i zP).f0 (ps.getD i zP).f1 (ps.getD i zP).f2) (n := i) 1 (fun j => if (ps.getD j zP).f0.toList = (ps.getD i zP).f0.toList then some 6 else none) (e := placeE (ps.getD i zP).f1 (ps.getD i zP).f2)
      (fun k j hj => by
        simp only [r09_place.l0]
        rw [if_pos (by omega), if_pos (by omega), if_pos (by omega), rdP, wrap_up hj (by omega)]
        by_cases c : (ps.getD j zP).f0.toList = (ps.getD i zP).f0.toList
        · rw [if_pos c, if_pos c]; rfl
        · rw [if_neg c, if_neg c]; rfl) hcap
    rw [first_any] at h
    have e : (∃ j, j < i ∧ (ps.getD j zP).f0.toList = (ps.getD i zP).f0.toList) ↔ (((ps.take i).map (·.f0)).any fun o => o.toList == (ps.getD i zP).f0.toList) = true := by
      rw [any_take ps (·.f0) _ zP (by omega)]
      simp only [beq_iff_eq]
    rw [nmE_loop _ _ hn]
    by_cases d : ∃ j, j < i ∧ (ps.getD j zP).f0.toList = (ps.getD i zP).f0.toList
    · rw [if_pos d] at h
      rw [if_pos (e.1 d), if_pos (by decide)]
      exact h
    · rw [if_neg d] at h
      rw [if_neg (fun x => d (e.2 x)), if_neg (by decide)]
      exact h
  · simp only [hn]
    have : nmE ((ps.take i).map (·.f0)) (ps.getD i zP).f0 = 5 := by unfold nmE; rw [if_neg hn]
    rw [this, if_pos (by decide)]
    exact Ev.some _

/-! ### arcs -/
theorem refarcs_step (k : Nat) (nm : ByteArray) (ps : List Pla) (ts : List Tra) (l : List Ac) (i : Nat) (hi : i < l.length) (hl : l.length ≤ 1000000) :
    r09_arcs.l0 (k + 3) l (i : Int) nm ps ts = stepO (arcE (ps.length : Int) l i) (r09_arcs.l0 k l ((i + 1 : Nat) : Int) nm ps ts) := by
  simp only [r09_arcs.l0]
  rw [if_pos (by omega), if_pos (by omega), rdA, ite_or _ _ (fun b => r09_arcs.j1 (k + 2) l (i : Int) b nm ps ts)]
  unfold arcE
  by_cases c1 : (l.getD i zA).f0 < 0 ∨ (l.getD i zA).f0 ≥ (ps.length : Int)
  · rw [decide_eq_true c1, if_pos c1]; simp only [r09_arcs.j1, ↓reduceIte, stepO]
  · rw [decide_eq_false c1, if_neg c1]
    have e2 : ∀ b : Bool, r09_arcs.j2 (k + 1) l (i : Int) b nm ps ts = if b = true then some 8 else if (l.getD i zA).f1 < 1 ∨ (l.getD i zA).f1 > 99 then some 9 else r09_arcs.l0 k l ((i + 1 : Nat) : Int) nm ps ts := by
      intro b
      simp only [r09_arcs.j2]
      cases b with
      | true => rw [if_pos rfl, if_pos rfl]
      | false => rw [if_neg Bool.false_ne_true, if_neg Bool.false_ne_true, if_pos (by omega), if_pos (by omega), rdA, wrap_up hi (by omega), ite_or2]
    simp only [r09_arcs.j1]
    rw [if_neg Bool.false_ne_true]
    by_cases c2 : 0 < i
    · rw [if_pos (by omega), if_pos (by omega), if_pos (by omega), if_pos (by rw [wrap_ok (by omega) (by omega)]; omega), if_pos (by rw [wrap_ok (by omega) (by omega)]; omega), wrap_ok (x := (i : Int) - 1) (by omega) (by omega), show ((i : Int) - 1) = ((i - 1 : Nat) : Int) by omega, rdA, rdA, e2]
      by_cases c3 : (l.getD (i - 1) zA).f0 ≥ (l.getD i zA).f0
      · rw [decide_eq_true (show (l.getD i zA).f0 ≤ (l.getD (i - 1) zA).f0 from c3), if_pos rfl, if_pos ⟨c2, c3⟩]; rfl
      · rw [decide_eq_false (show ¬ (l.getD i zA).f0 ≤ (l.getD (i - 1) zA).f0 from c3), if_neg Bool.false_ne_true, if_neg (show ¬ (0 < i ∧ (l.getD (i - 1) zA).f0 ≥ (l.getD i zA).f0) from fun h => c3 h.2)]
        by_cases d : (l.getD i zA).f1 < 1 ∨ (l.getD i zA).f1 > 99
        · rw [if_pos d, if_pos d]; rfl
        · rw [if_neg d, if_neg d]; rfl
    · rw [if_neg (by omega), e2, if_neg Bool.false_ne_true, if_neg (show ¬ (0 < i ∧ (l.getD (i - 1) zA).f0 ≥ (l.getD i zA).f0) from fun h => c2 h.1)]
      by_cases d : (l.getD i zA).f1 < 1 ∨ (l.getD i zA).f1 > 99
      · rw [if_pos d, if_pos d]; rfl
      · rw [if_neg d, if_neg d]; rfl
theorem refarcs_ev (nm : ByteArray) (ps : List Pla) (ts : List Tra) (l : List Ac) (hl : l.length ≤ 1000000) : Ev (fun k => r09_arcs.f k nm ps ts l) (arcsE (ps.length : Int) l) :=
  Ev_loop (L := fun k i => r09_arcs.l0 k l (i : Int) nm ps ts) 3 (arcE (ps.length : Int) l) (fun k i hi => refarcs_step k nm ps ts l i hi hl)
    (Ev.one (fun k => by simp only [r09_arcs.l0]; rw [if_neg (by omega)]))

/-! ### a transition -/
theorem reftrans_ev (nm : ByteArray) {ps : List Pla} {ts : List Tra} {i : Nat} (hi : i < ts.length) (hp : ps.length ≤ 1000000) (ht : ts.length ≤ 1000000) (hT : Thin ts) : Ev (fun k => r09_trans.f k nm ps ts (i : Int)) (trR ps ts i) := by
  have e0 : ∀ k, r09_trans.f k nm ps ts (i : Int) = (r09_Name.f k (ts.getD i zT).f0).bind fun t => if t = true then r09_trans.l0 k (i : Int) 0 nm ps ts (ts.getD i zT).f0 (ts.getD i zT).f1 (ts.getD i zT).f2 (ts.getD i zT).f3 (ts.getD i zT).f4 else some 5 := fun k => by
    unfold r09_trans.f
    rw [if_pos (by omega), if_pos (by omega), rdT]
  refine Ev.congr e0 (Ev.bind (refname_ev _) ?_)
  unfold trR
  have hth := hT.at hi
  generalize ts.getD i zT = t at hth
  by_cases hn : nameB t.f0 = true
  · simp only [hn, ↓reduceIte]
    have h2 : Ev (fun k => r09_trans.l1 k (i : Int) (i : Int) nm ps ts t.f0 t.f1 t.f2 t.f3 t.f4) (transE (ps.length : Int) t) := by
      refine Ev.step (f := fun k => r09_trans.j2 k (decide (t.f4 < 0 ∨ t.f4 > 9)) nm ps ts t.f0 t.f1 t.f2 t.f3 t.f4) (fun k => ?_) ?_
      · simp only [r09_trans.l1]
        rw [if_neg (by omega)]
        exact ite_or _ _ (fun b => r09_trans.j2 k b nm ps ts t.f0 t.f1 t.f2 t.f3 t.f4)
      · unfold transE
        by_cases c : t.f4 < 0 ∨ t.f4 > 9
        · rw [decide_eq_true c, if_pos c]
          exact Ev.one (fun k => by simp only [r09_trans.j2, ↓reduceIte])
        · rw [decide_eq_false c, if_neg c]
          refine Ev.step (f := fun k => (r09_arcs.f k nm ps ts t.f1).bind fun a => if a = 0 then ((r09_arcs.f k nm ps ts t.f2).bind fun b => if b = 0 then ((r09_arcs.f k nm ps ts t.f3).bind fun c => some c) else some b) else some a) (fun k => by simp only [r09_trans.j2]; rw [if_neg Bool.false_ne_true]) ?_
          refine Ev.bind (refarcs_ev nm ps ts _ hth.2.1) ?_
          by_cases d1 : arcsE (ps.length : Int) t.f1 = 0
          · rw [if_neg (by simpa using d1)]
            simp only [d1, ↓reduceIte]
            refine Ev.bind (refarcs_ev nm ps ts _ hth.2.2.1) ?_
            by_cases d2 : arcsE (ps.length : Int) t.f2 = 0
            · rw [if_neg (by simpa using d2)]
              simp only [d2, ↓reduceIte]
              exact Ev.bind (refarcs_ev nm ps ts _ hth.2.2.2) (Ev.some _)
            · rw [if_pos d2]
              simp only [d2, ↓reduceIte]
              exact Ev.some _
          · rw [if_pos d1]
            simp only [d1, ↓reduceIte]
            exact Ev.some _
    have h1 := Ev_loop (L := fun k j => r09_trans.l1 k (i : Int) (j : Int) nm ps ts t.f0 t.f1 t.f2 t.f3 t.f4) (n := i) 1 (fun j => if (ts.getD j zT).f0.toList = t.f0.toList then some 6 else none) (e := transE (ps.length : Int) t)
      (fun k j hj => by
        simp only [r09_trans.l1]
        rw [if_pos (by omega), if_pos (by omega), if_pos (by omega), rdT, wrap_up hj (by omega)]
        by_cases c : (ts.getD j zT).f0.toList = t.f0.toList
        · rw [if_pos c, if_pos c]; rfl
        · rw [if_neg c, if_neg c]; rfl) h2
    have h0 := Ev_loop (L := fun k j => r09_trans.l0 k (i : Int) (j : Int) nm ps ts t.f0 t.f1 t.f2 t.f3 t.f4) (n := ps.length) 1 (fun j => if (ps.getD j zP).f0.toList = t.f0.toList then some 6 else none) (e := first (fun j => if (ts.getD j zT).f0.toList = t.f0.toList then some 6 else none) (transE (ps.length : Int) t) i)
      (fun k j hj => by
        simp only [r09_trans.l0]
        rw [if_pos (by omega), if_pos (by omega), rdP, wrap_up hj (by omega)]
        by_cases c : (ps.getD j zP).f0.toList = t.f0.toList
        · rw [if_pos c, if_pos c]; rfl
        · rw [if_neg c, if_neg c]; rfl)
      (Ev.step (f := fun k => r09_trans.l1 k (i : Int) ((0 : Nat) : Int) nm ps ts t.f0 t.f1 t.f2 t.f3 t.f4) (fun k => by simp only [r09_trans.l0]; rw [if_neg (by omega)]; rfl) h1)
    rw [first_any, first_any] at h0
    have e : (((ps.map (·.f0)) ++ (ts.take i).map (·.f0)).any fun o => o.toList == t.f0.toList) = true ↔ (∃ j, j < ps.length ∧ (ps.getD j zP).f0.toList = t.f0.toList) ∨ (∃ j, j < i ∧ (ts.getD j zT).f0.toList = t.f0.toList) := by
      rw [List.any_append, Bool.or_eq_true, any_take ts (·.f0) _ zT (by omega), any_all ps (·.f0) _ zP]
      simp only [beq_iff_eq]
    rw [nmE_loop _ _ hn]
    by_cases d : ∃ j, j < ps.length ∧ (ps.getD j zP).f0.toList = t.f0.toList
    · rw [if_pos d] at h0
      rw [if_pos (e.2 (Or.inl d)), if_pos (by decide)]
      exact h0
    · rw [if_neg d] at h0
      by_cases d2 : ∃ j, j < i ∧ (ts.getD j zT).f0.toList = t.f0.toList
      · rw [if_pos d2] at h0
        rw [if_pos (e.2 (Or.inr d2)), if_pos (by decide)]
        exact h0
      · rw [if_neg d2] at h0
        rw [if_neg (fun x => (e.1 x).elim d d2), if_neg (by decide)]
        exact h0
  · simp only [hn]
    have : nmE (ps.map (·.f0) ++ (ts.take i).map (·.f0)) t.f0 = 5 := by unfold nmE; rw [if_neg hn]
    rw [this, if_pos (by decide)]
    exact Ev.some _

/-! ### the check -/
theorem refcheck_ev (nm : ByteArray) {ps : List Pla} {ts : List Tra} (hT : Thin ts) : Ev (fun k => r09_Check.f k nm ps ts) (checkS nm ps ts) := by
  unfold r09_Check.f checkS
  refine Ev.bind (refname_ev nm) ?_
  by_cases h1 : nameB nm = true
  · simp only [h1, ↓reduceIte]
    have e0 : ∀ k, (if (ps.length : Int) < 1 then r09_Check.j0 k true nm ps ts else if (ps.length : Int) > 24 then r09_Check.j0 k true nm ps ts else r09_Check.j0 k (decide ((ts.length : Int) > 24)) nm ps ts) = r09_Check.j0 k (decide ((ps.length : Int) < 1 ∨ (24 : Int) < (ps.length : Int) ∨ (24 : Int) < (ts.length : Int))) nm ps ts := fun k => by
      rw [ite_or ((ps.length : Int) > 24) _ (fun b => r09_Check.j0 k b nm ps ts)]
      exact ite_or _ _ (fun b => r09_Check.j0 k b nm ps ts)
    refine Ev.congr e0 ?_
    by_cases h2 : (ps.length : Int) < 1 ∨ (24 : Int) < (ps.length : Int) ∨ (24 : Int) < (ts.length : Int)
    · rw [decide_eq_true h2, if_pos h2]
      exact Ev.one (fun k => by simp only [r09_Check.j0, ↓reduceIte])
    · rw [decide_eq_false h2, if_neg h2]
      refine Ev.step (f := fun k => r09_Check.l0 k ((0 : Nat) : Int) nm ps ts) (fun k => by simp only [r09_Check.j0]; rw [if_neg Bool.false_ne_true]; rfl) ?_
      have ht := Ev_first (L := fun k i => r09_Check.l1 k (i : Int) nm ps ts) (n := ts.length) (tF ps ts) (e := ((0 : Int), (0 : Int)))
        (fun i hi hf r hr => Ev.step (f := fun k => (r09_trans.f k nm ps ts (i : Int)).bind fun t => if t = 0 then r09_Check.l1 k ((i + 1 : Nat) : Int) nm ps ts else some (t, (ps.length : Int) + (i : Int))) (fun k => by
          simp only [r09_Check.l1]
          rw [if_pos (by omega), wrap_up hi (by omega), wrap_ok (x := (ps.length : Int) + (i : Int)) (by omega) (by omega)]) (by
            refine Ev.bind (reftrans_ev nm hi (by omega) (by omega) hT) ?_
            have hz := of_ite_none hf
            simp only [hz, ↓reduceIte]
            exact hr))
        (fun i r hi hf => Ev.step (f := fun k => (r09_trans.f k nm ps ts (i : Int)).bind fun t => if t = 0 then r09_Check.l1 k ((i + 1 : Nat) : Int) nm ps ts else some (t, (ps.length : Int) + (i : Int))) (fun k => by
          simp only [r09_Check.l1]
          rw [if_pos (by omega), wrap_up hi (by omega), wrap_ok (x := (ps.length : Int) + (i : Int)) (by omega) (by omega)]) (by
            refine Ev.bind (reftrans_ev nm hi (by omega) (by omega) hT) ?_
            obtain ⟨hz, rfl⟩ := of_ite_some hf
            simp only [hz, ↓reduceIte]
            exact Ev.some _))
        (Ev.one (fun k => by simp only [r09_Check.l1]; rw [if_neg (by omega)]))
      exact Ev_first (L := fun k i => r09_Check.l0 k (i : Int) nm ps ts) (n := ps.length) (pF ps) (e := first (tF ps ts) (0, 0) ts.length)
        (fun i hi hf r hr => Ev.step (f := fun k => (r09_place.f k nm ps ts (i : Int)).bind fun t => if t = 0 then r09_Check.l0 k ((i + 1 : Nat) : Int) nm ps ts else some (t, (i : Int))) (fun k => by
          simp only [r09_Check.l0]
          rw [if_pos (by omega), wrap_up hi (by omega)]) (by
            refine Ev.bind (refplace_ev nm ts hi (by omega)) ?_
            have hz := of_ite_none hf
            simp only [hz, ↓reduceIte]
            exact hr))
        (fun i r hi hf => Ev.step (f := fun k => (r09_place.f k nm ps ts (i : Int)).bind fun t => if t = 0 then r09_Check.l0 k ((i + 1 : Nat) : Int) nm ps ts else some (t, (i : Int))) (fun k => by
          simp only [r09_Check.l0]
          rw [if_pos (by omega), wrap_up hi (by omega)]) (by
            refine Ev.bind (refplace_ev nm ts hi (by omega)) ?_
            obtain ⟨hz, rfl⟩ := of_ite_some hf
            simp only [hz, ↓reduceIte]
            exact Ev.some _))
        (Ev.step (f := fun k => r09_Check.l1 k ((0 : Nat) : Int) nm ps ts) (fun k => by simp only [r09_Check.l0]; rw [if_neg (by omega)]; rfl) ht)
  · simp only [h1]; exact Ev.some _
theorem refvalid_ev (nm : ByteArray) {ps : List Pla} {ts : List Tra} (hT : Thin ts) : Ev (fun k => r09_Valid.f k nm ps ts) (validS nm ps ts) := by
  unfold r09_Valid.f
  exact Ev.bind (refcheck_ev nm hT) (Ev.some _)
end Go.Proofs.Ytplljicodflagaa.Pl
/- What the reference's functions over lists of arcs answer. -/
namespace Go.Proofs.Ytplljicodflagaa.Pl
open Go.RowKit Go.Proofs.Ytplljicodflagaa.P Go.Proofs.YtplljicodflagaaW.PrintWords Go.Proofs.YtplljicodflagaaW.PrintMore
theorem refweight_ev (l : List Ac) (p : Int) (hl : l.length ≤ 1000000) : Ev (fun k => r09_Weight.f k l p) (weightS l p) :=
  Ev_loop (L := fun k i => r09_Weight.l0 k l p (i : Int)) 1 _ (fun k i hi => by
    simp only [r09_Weight.l0]
    rw [if_pos (by omega), if_pos (by omega), rdA, wrap_up hi (by omega)]
    by_cases c : (l.getD i zA).f0 = p
    · rw [if_pos c, if_pos c]; rfl
    · rw [if_neg c, if_neg c]; rfl) (Ev.one (fun k => by simp only [r09_Weight.l0]; rw [if_neg (by omega)]))
end Go.Proofs.Ytplljicodflagaa.Pl
/- Whether a net is plain, ordinary: the reference's texts. -/
namespace Go.Proofs.Ytplljicodflagaa.Pl
open Go.RowKit Go.Proofs.Ytplljicodflagaa.P Go.Proofs.YtplljicodflagaaW.PrintWords Go.Proofs.YtplljicodflagaaW.PrintMore

theorem refplain_ev (nm : ByteArray) {ps : List Pla} {ts : List Tra} (hp : ps.length ≤ 1000000) (ht : ts.length ≤ 1000000) (hT : Thin ts) : Ev (fun k => r09_Plain.f k nm ps ts) (plainS (validS nm ps ts) ps ts) := by
  rw [plain_swap]
  unfold r09_Plain.f
  refine Ev.bind (refvalid_ev nm hT) ?_
  by_cases hv : validS nm ps ts = true
  · simp only [hv, ↓reduceIte]
    have h1 := Ev_loop (L := fun k i => r09_Plain.l1 k (i : Int) nm ps ts) (n := ts.length) 1 (fun i => if ((ts.getD i zT).f3.length : Int) > 0 ∨ (ts.getD i zT).f4 ≠ 0 then some false else none) (e := true)
      (fun k i hi => by
        simp only [r09_Plain.l1]
        rw [if_pos (by omega), if_pos (by omega), rdT, wrap_up hi (by omega)]
        by_cases c1 : ((ts.getD i zT).f3.length : Int) > 0
        · rw [if_pos c1, if_pos (Or.inl c1)]; rfl
        · rw [if_neg c1]
          by_cases c2 : (ts.getD i zT).f4 = 0
          · rw [if_pos c2, if_neg (fun h => h.elim c1 (fun h => h c2))]; rfl
          · rw [if_neg c2, if_pos (Or.inr c2)]; rfl)
      (Ev.one (fun k => by simp only [r09_Plain.l1]; rw [if_neg (by omega)]))
    exact Ev_loop (L := fun k i => r09_Plain.l0 k (i : Int) nm ps ts) (n := ps.length) 1 (fun i => if (ps.getD i zP).f2 ≠ 0 then some false else none) (e := plainT ts true)
      (fun k i hi => by
        simp only [r09_Plain.l0]
        rw [if_pos (by omega), if_pos (by omega), rdP, wrap_up hi (by omega)]
        by_cases c : (ps.getD i zP).f2 = 0
        · rw [if_pos c, if_neg (by simpa using c)]; rfl
        · rw [if_neg c, if_pos c]; rfl)
      (Ev.step (f := fun k => r09_Plain.l1 k ((0 : Nat) : Int) nm ps ts) (fun k => by simp only [r09_Plain.l0]; rw [if_neg (by omega)]; rfl) h1)
  · simp only [hv]; exact Ev.some _
end Go.Proofs.Ytplljicodflagaa.Pl
/- Whether a net is plain, ordinary: the reference's texts. -/
namespace Go.Proofs.Ytplljicodflagaa.Pl
open Go.RowKit Go.Proofs.Ytplljicodflagaa.P Go.Proofs.YtplljicodflagaaW.PrintWords Go.Proofs.YtplljicodflagaaW.PrintMore

theorem refones_ev (l : List Ac) (hl : l.length ≤ 1000000) : Ev (fun k => r09_ones.f k l) (l.all fun a => a.f1 == 1) := by
  have h := Ev_loop (L := fun k i => r09_ones.l0 k l (i : Int)) (n := l.length) 1 (fun i => if (!((l.getD i zA).f1 == 1)) = true then some false else none) (e := true)
    (fun k i hi => by
      simp only [r09_ones.l0]
      rw [if_pos (by omega), if_pos (by omega), rdA, wrap_up hi (by omega)]
      by_cases c : (l.getD i zA).f1 = 1
      · rw [if_pos c, if_neg (by rw [c]; decide)]; rfl
      · rw [if_neg c, if_pos (by rw [beq_eq_false_iff_ne.2 c]; rfl)]; rfl)
    (Ev.one (fun k => by simp only [r09_ones.l0]; rw [if_neg (by omega)]))
  have e : first (fun i => if (!((l.getD i zA).f1 == 1)) = true then some false else none) true l.length = l.all fun a => a.f1 == 1 := by
    rw [Bool.eq_iff_iff, first_bool (fun i => !((l.getD i zA).f1 == 1)), List.all_eq_true]
    constructor
    · intro h x hx
      obtain ⟨i, hi, rfl⟩ := List.getElem_of_mem hx
      have := h i hi
      rw [List.getD_eq_getElem?_getD, List.getElem?_eq_getElem hi] at this
      simpa using this
    · intro h i hi
      rw [h _ (getD_mem l zA hi)]
      rfl
  rw [← e]
  exact h
theorem refordinary_ev (nm : ByteArray) {ps : List Pla} {ts : List Tra} (ht : ts.length ≤ 1000000) (hT : Thin ts) : Ev (fun k => r09_Ordinary.f k nm ps ts) (ordinaryS (validS nm ps ts) ts) := by
  unfold r09_Ordinary.f ordinaryS
  refine Ev.bind (refvalid_ev nm hT) ?_
  by_cases hv : validS nm ps ts = true
  · simp only [hv, ↓reduceIte]
    have hb : ∀ i, i < ts.length → ∀ r, Ev (fun k => r09_Ordinary.l0 k ((i + 1 : Nat) : Int) nm ps ts) r → Ev (fun k => r09_Ordinary.l0 k (i : Int) nm ps ts) (if (((ts.getD i zT).f1.all fun a => a.f1 == 1) && ((ts.getD i zT).f2.all fun a => a.f1 == 1)) = true then r else false) := fun i hi r hr => by
      refine Ev.step (f := fun k => (r09_ones.f k (ts.getD i zT).f1).bind fun a => if a = true then ((r09_ones.f k (ts.getD i zT).f2).bind fun b => if b = true then r09_Ordinary.l0 k ((i + 1 : Nat) : Int) nm ps ts else some false) else some false) (fun k => by
        simp only [r09_Ordinary.l0]
        rw [if_pos (by omega), if_pos (by omega), rdT, wrap_up hi (by omega)]) (Ev.bind (refones_ev _ (hT.at hi).2.1) ?_)
      cases h1 : ((ts.getD i zT).f1.all fun a => a.f1 == 1) with
      | false => simp only [Bool.false_and, Bool.false_eq_true, ↓reduceIte]; exact Ev.some _
      | true =>
        simp only [Bool.true_and, ↓reduceIte]
        refine Ev.bind (refones_ev _ (hT.at hi).2.2.1) ?_
        cases h2 : ((ts.getD i zT).f2.all fun a => a.f1 == 1) with
        | false => simp only [Bool.false_eq_true, ↓reduceIte]; exact Ev.some _
        | true => simp only [↓reduceIte]; exact hr
    have h := Ev_first (L := fun k i => r09_Ordinary.l0 k (i : Int) nm ps ts) (n := ts.length) (fun i => if (!(((ts.getD i zT).f1.all fun a => a.f1 == 1) && ((ts.getD i zT).f2.all fun a => a.f1 == 1))) = true then some false else none) (e := true)
      (fun i hi hp r hr => by
        have := hb i hi r hr
        cases hc : (((ts.getD i zT).f1.all fun a => a.f1 == 1) && ((ts.getD i zT).f2.all fun a => a.f1 == 1)) with
        | true => rw [hc, if_pos rfl] at this; exact this
        | false => rw [hc] at hp; cases hp)
      (fun i r hi hp => by
        cases hc : (((ts.getD i zT).f1.all fun a => a.f1 == 1) && ((ts.getD i zT).f2.all fun a => a.f1 == 1)) with
        | true => rw [hc] at hp; cases hp
        | false =>
          rw [hc] at hp
          obtain rfl := Option.some.inj hp
          refine Ev.step (f := fun k => (r09_ones.f k (ts.getD i zT).f1).bind fun a => if a = true then ((r09_ones.f k (ts.getD i zT).f2).bind fun b => if b = true then r09_Ordinary.l0 k ((i + 1 : Nat) : Int) nm ps ts else some false) else some false) (fun k => by
            simp only [r09_Ordinary.l0]
            rw [if_pos (by omega), if_pos (by omega), rdT, wrap_up hi (by omega)]) (Ev.bind (refones_ev _ (hT.at hi).2.1) ?_)
          cases h1 : ((ts.getD i zT).f1.all fun a => a.f1 == 1) with
          | false => simp only [Bool.false_eq_true, ↓reduceIte]; exact Ev.some _
          | true =>
            simp only [↓reduceIte]
            refine Ev.bind (refones_ev _ (hT.at hi).2.2.1) ?_
            rw [h1, Bool.true_and] at hc
            simp only [hc, Bool.false_eq_true, ↓reduceIte]; exact Ev.some _)
      (Ev.one (fun k => by simp only [r09_Ordinary.l0]; rw [if_neg (by omega)]))
    have e : first (fun i => if (!(((ts.getD i zT).f1.all fun a => a.f1 == 1) && ((ts.getD i zT).f2.all fun a => a.f1 == 1))) = true then some false else none) true ts.length = ts.all fun t => (t.f1.all fun a => a.f1 == 1) && (t.f2.all fun a => a.f1 == 1) := by
      rw [Bool.eq_iff_iff, first_bool (fun i => !(((ts.getD i zT).f1.all fun a => a.f1 == 1) && ((ts.getD i zT).f2.all fun a => a.f1 == 1))), List.all_eq_true]
      constructor
      · intro h x hx
        obtain ⟨i, hi, rfl⟩ := List.getElem_of_mem hx
        have := h i hi
        rw [List.getD_eq_getElem?_getD, List.getElem?_eq_getElem hi] at this
        rw [Bool.not_eq_false'] at this; exact this
      · intro h i hi
        rw [h _ (getD_mem ts zT hi)]
        rfl
    rw [e] at h
    cases hq : (ts.all fun t => (t.f1.all fun a => a.f1 == 1) && (t.f2.all fun a => a.f1 == 1)) with
    | true => rw [hq] at h; rw [if_pos rfl]; exact h
    | false => rw [hq] at h; rw [if_neg Bool.false_ne_true]; exact h
  · simp only [hv, ite_self]; exact Ev.some _
end Go.Proofs.Ytplljicodflagaa.Pl
/- The reference's targets of a list of arcs. -/
namespace Go.Proofs.Ytplljicodflagaa.Pl
open Go.RowKit Go.Proofs.Ytplljicodflagaa.P Go.Proofs.YtplljicodflagaaW.PrintWords Go.Proofs.YtplljicodflagaaW.PrintMore

theorem reftargets_ev (l : List Ac) (hl : l.length ≤ 1000000) : Ev (fun k => r09_Targets.f k l) (l.map (·.f0)) := by
  have h := Ev_up (L := fun k i => r09_Targets.l0 k l ((l.take i).map (·.f0)) (i : Int)) (n := l.length) (r := l.map (·.f0))
    (fun i hi hr => Ev.step (fun k => by
      simp only [r09_Targets.l0]
      rw [if_pos (by omega), if_pos (by omega), if_pos (by simp only [List.length_map, List.length_take]; omega), rdA, wrap_up hi (by omega), ← take_map_succ l (fun a => a.f0) zA hi]) hr)
    (Ev.one (fun k => by simp only [r09_Targets.l0]; rw [if_neg (by omega), List.take_length]))
  unfold r09_Targets.f
  simpa using h
end Go.Proofs.Ytplljicodflagaa.Pl
/- Producers and consumers, the reference's. -/
namespace Go.Proofs.Ytplljicodflagaa.Pl
open Go.RowKit Go.Proofs.Ytplljicodflagaa.P Go.Proofs.YtplljicodflagaaW.PrintWords Go.Proofs.YtplljicodflagaaW.PrintMore

theorem refproducers_ev (nm : ByteArray) {ps : List Pla} {ts : List Tra} (p : Int) (ht : ts.length ≤ 1000000) (hT : Thin ts) : Ev (fun k => r09_Producers.f k nm ps ts p) (producersS (validS nm ps ts) ts p) := by
  unfold producersS
  by_cases hv : validS nm ps ts = true
  · rw [if_pos hv]
    exact Ev_up (L := fun k i => r09_Producers.l0 k p (((List.range i).filter fun t : Nat => decide (weightS (ts.getD t zT).f2 p > 0)).map (fun t : Nat => (t : Int))) (i : Int) nm ps ts) (n := ts.length)
      (fun i hi hr => by
        generalize hq : (((List.range i).filter fun t : Nat => decide (weightS (ts.getD t zT).f2 p > 0)).map (fun t : Nat => (t : Int))) = acc
        have hl := filter_len (fun t : Nat => decide (weightS (ts.getD t zT).f2 p > 0)) i
        rw [hq] at hl
        rw [filter_next, hq] at hr
        refine Ev.step (f := fun k => (r09_Valid.f k nm ps ts).bind fun b => r09_Producers.j1 k p acc (i : Int) b nm ps ts) (fun k => by simp only [r09_Producers.l0]; rw [if_pos (by omega)]) (Ev.bind (refvalid_ev nm hT) ?_)
        rw [hv]
        refine Ev.step (f := fun k => (r09_Weight.f k (ts.getD i zT).f2 p).bind fun t => if t > 0 then r09_Producers.l0 k p (acc ++ [(i : Int)]) ((i + 1 : Nat) : Int) nm ps ts else r09_Producers.l0 k p acc ((i + 1 : Nat) : Int) nm ps ts) (fun k => by
          simp only [r09_Producers.j1]
          rw [if_pos trivial, if_pos (by omega), if_pos (by omega), if_pos (by omega), rdT, wrap_up hi (by omega)]) (Ev.bind (refweight_ev _ p (hT.at hi).2.2.1) ?_)
        by_cases c : weightS (ts.getD i zT).f2 p > 0
        · simp only [c, decide_true, ↓reduceIte] at hr ⊢; exact hr
        · simp only [c, decide_false, ↓reduceIte, Bool.false_eq_true] at hr ⊢; exact hr)
      (Ev.stepn 2 (f := fun _ => some _) (fun k => by simp only [r09_Producers.l0]; rw [if_neg (by omega)]; simp only [r09_Producers.j1]; rw [if_neg Bool.false_ne_true]) (Ev.some _))
  · rw [if_neg hv]
    have hf := Bool.eq_false_iff.2 hv
    unfold r09_Producers.f
    by_cases h0 : 0 < ts.length
    · refine Ev.step (f := fun k => (r09_Valid.f k nm ps ts).bind fun b => r09_Producers.j1 k p [] 0 b nm ps ts) (fun k => by simp only [r09_Producers.l0]; rw [if_pos (by omega)]) (Ev.bind (refvalid_ev nm hT) ?_)
      rw [hf]
      exact Ev.one (fun k => by simp only [r09_Producers.j1]; rw [if_neg Bool.false_ne_true])
    · exact Ev.stepn 2 (f := fun _ => some _) (fun k => by simp only [r09_Producers.l0]; rw [if_neg (by omega)]; simp only [r09_Producers.j1]; rw [if_neg Bool.false_ne_true]) (Ev.some _)
theorem refconsumers_ev (nm : ByteArray) {ps : List Pla} {ts : List Tra} (p : Int) (ht : ts.length ≤ 1000000) (hT : Thin ts) : Ev (fun k => r09_Consumers.f k nm ps ts p) (consumersS (validS nm ps ts) ts p) := by
  unfold consumersS
  by_cases hv : validS nm ps ts = true
  · rw [if_pos hv]
    exact Ev_up (L := fun k i => r09_Consumers.l0 k p (((List.range i).filter fun t : Nat => decide (weightS (ts.getD t zT).f1 p > 0)).map (fun t : Nat => (t : Int))) (i : Int) nm ps ts) (n := ts.length)
      (fun i hi hr => by
        generalize hq : (((List.range i).filter fun t : Nat => decide (weightS (ts.getD t zT).f1 p > 0)).map (fun t : Nat => (t : Int))) = acc
        have hl := filter_len (fun t : Nat => decide (weightS (ts.getD t zT).f1 p > 0)) i
        rw [hq] at hl
        rw [filter_next, hq] at hr
        refine Ev.step (f := fun k => (r09_Valid.f k nm ps ts).bind fun b => r09_Consumers.j1 k p acc (i : Int) b nm ps ts) (fun k => by simp only [r09_Consumers.l0]; rw [if_pos (by omega)]) (Ev.bind (refvalid_ev nm hT) ?_)
        rw [hv]
        refine Ev.step (f := fun k => (r09_Weight.f k (ts.getD i zT).f1 p).bind fun t => if t > 0 then r09_Consumers.l0 k p (acc ++ [(i : Int)]) ((i + 1 : Nat) : Int) nm ps ts else r09_Consumers.l0 k p acc ((i + 1 : Nat) : Int) nm ps ts) (fun k => by
          simp only [r09_Consumers.j1]
          rw [if_pos trivial, if_pos (by omega), if_pos (by omega), if_pos (by omega), rdT, wrap_up hi (by omega)]) (Ev.bind (refweight_ev _ p (hT.at hi).2.1) ?_)
        by_cases c : weightS (ts.getD i zT).f1 p > 0
        · simp only [c, decide_true, ↓reduceIte] at hr ⊢; exact hr
        · simp only [c, decide_false, ↓reduceIte, Bool.false_eq_true] at hr ⊢; exact hr)
      (Ev.stepn 2 (f := fun _ => some _) (fun k => by simp only [r09_Consumers.l0]; rw [if_neg (by omega)]; simp only [r09_Consumers.j1]; rw [if_neg Bool.false_ne_true]) (Ev.some _))
  · rw [if_neg hv]
    have hf := Bool.eq_false_iff.2 hv
    unfold r09_Consumers.f
    by_cases h0 : 0 < ts.length
    · refine Ev.step (f := fun k => (r09_Valid.f k nm ps ts).bind fun b => r09_Consumers.j1 k p [] 0 b nm ps ts) (fun k => by simp only [r09_Consumers.l0]; rw [if_pos (by omega)]) (Ev.bind (refvalid_ev nm hT) ?_)
      rw [hf]
      exact Ev.one (fun k => by simp only [r09_Consumers.j1]; rw [if_neg Bool.false_ne_true])
    · exact Ev.stepn 2 (f := fun _ => some _) (fun k => by simp only [r09_Consumers.l0]; rw [if_neg (by omega)]; simp only [r09_Consumers.j1]; rw [if_neg Bool.false_ne_true]) (Ev.some _)
end Go.Proofs.Ytplljicodflagaa.Pl
/- Plain lemmas: loops that end early, lists told by their places. -/
namespace Go.Proofs.Ytplljicodflagaa.Pl
open Go.RowKit Go.Proofs.YtplljicodflagaaW.PrintWords Go.Proofs.YtplljicodflagaaW.PrintMore

theorem dec_t {p : Prop} {i : Decidable p} (h : p) : @decide p i = true := decide_eq_true h
theorem dec_f {p : Prop} {i : Decidable p} (h : ¬ p) : @decide p i = false := decide_eq_false h
/-- A loop that counts up to n and answers a at the first place with c. -/
theorem Ev_ex {ρ : Type} {L : Nat → Nat → Option ρ} {n : Nat} (c : Nat → Prop) {a e r : ρ}
    (yes : ∀ i, i < n → c i → Ev (fun k => L k i) a)
    (no : ∀ i, i < n → ¬ c i → ∀ r, Ev (fun k => L k (i + 1)) r → Ev (fun k => L k i) r)
    (fin : (∀ j, j < n → ¬ c j) → Ev (fun k => L k n) e) (ha : (∃ j, j < n ∧ c j) → r = a) (he : (∀ j, j < n → ¬ c j) → r = e) : Ev (fun k => L k 0) r := by
  have go : ∀ d i, i + d = n → (∀ j, j < i → ¬ c j) → Ev (fun k => L k i) r := by
    intro d
    induction d with
    | zero =>
      intro i hi hb
      obtain rfl : i = n := by omega
      rw [he hb]
      exact fin hb
    | succ d ih =>
      intro i hi hb
      by_cases h : c i
      · rw [ha ⟨i, by omega, h⟩]
        exact yes i (by omega) h
      · exact no i (by omega) h _ (ih (i + 1) (by omega) (fun j hj => by
          by_cases e : j = i
          · rw [e]; exact h
          · exact hb j (by omega)))
  exact go n 0 (by omega) (fun j h => by omega)

/-- A list by its places. -/
abbrev mr {α : Type} (n : Nat) (f : Nat → α) : List α := (List.range n).map f
theorem mr_get {α : Type} {n v : Nat} (f : Nat → α) (d : α) (h : v < n) : (mr n f).getD v d = f v := by
  rw [List.getD_eq_getElem?_getD, List.getElem?_map, List.getElem?_range h]; rfl
theorem mr_len {α : Type} (n : Nat) (f : Nat → α) : (mr n f).length = n := by rw [List.length_map, List.length_range]
theorem mr_congr {α : Type} {n : Nat} {f g : Nat → α} (h : ∀ v, v < n → f v = g v) : mr n f = mr n g := List.map_congr_left fun v hv => h v (List.mem_range.1 hv)
theorem mr_set {α : Type} {n p : Nat} (f : Nat → α) (x : α) : (mr n f).set p x = mr n (fun v => if v = p then x else f v) := by
  refine List.ext_getElem? fun i => ?_
  rw [List.getElem?_set, List.getElem?_map, List.getElem?_map, List.length_map, List.length_range]
  by_cases hi : i < n
  · rw [List.getElem?_range hi]
    by_cases e : p = i
    · subst e; simp [hi]
    · simp [e, Ne.symm e]
  · rw [List.getElem?_eq_none (by simpa using hi)]
    by_cases e : p = i
    · subst e; simp [hi]
    · simp [e]
theorem mr_rep {α : Type} (n : Nat) (x : α) : List.replicate n x = mr n (fun _ => x) := by
  refine List.ext_getElem (by simp) fun i h1 h2 => by simp
theorem mr_snoc {α : Type} (n : Nat) (f : Nat → α) : mr (n + 1) f = mr n f ++ [f n] := by unfold mr; rw [List.range_succ, List.map_append]; rfl
end Go.Proofs.Ytplljicodflagaa.Pl
/- The classes of a net: what they are; state machines, marked graphs, purity by both texts. -/
namespace Go.Proofs.Ytplljicodflagaa.Pl
set_option linter.unusedVariables false
open Go.RowKit Go.Proofs.Ytplljicodflagaa.P Go.Proofs.YtplljicodflagaaW.PrintWords Go.Proofs.YtplljicodflagaaW.PrintMore

def basicS (v : Bool) (ps : List Pla) (ts : List Tra) : Bool := if plainS v ps ts = true then ordinaryS v ts else false
theorem plain_v {v : Bool} {ps : List Pla} {ts : List Tra} (h : plainS v ps ts = true) : v = true := by
  rw [plain_swap] at h
  by_cases hv : v = true
  · exact hv
  · rw [if_neg hv] at h; cases h
theorem basic_v {v : Bool} {ps : List Pla} {ts : List Tra} (h : basicS v ps ts = true) : v = true := by
  unfold basicS at h
  by_cases hp : plainS v ps ts = true
  · exact plain_v hp
  · rw [if_neg hp] at h; cases h
section
variable {nm : ByteArray} {ps : List Pla} {ts : List Tra}
theorem simple_ev (hp : ps.length ≤ 1000000) (ht : ts.length ≤ 1000000) (hT : Thin ts) : Ev (fun k => netclass_simple.f k nm ps ts) (basicS (validS nm ps ts) ps ts) := by
  unfold netclass_simple.f basicS
  refine Ev.bind (plain_ev nm hp ht hT) ?_
  by_cases h : plainS (validS nm ps ts) ps ts = true
  · simp only [h, ↓reduceIte]; exact ordinary_ev nm hT
  · simp only [h]; exact Ev.some _
theorem refbasic_ev (hp : ps.length ≤ 1000000) (ht : ts.length ≤ 1000000) (hT : Thin ts) : Ev (fun k => r13_basic.f k nm ps ts) (basicS (validS nm ps ts) ps ts) := by
  unfold r13_basic.f
  refine Ev.bind (refvalid_ev nm hT) ?_
  cases hv : validS nm ps ts with
  | false =>
    have e : basicS false ps ts = false := Bool.eq_false_iff.2 fun h => by cases basic_v h
    rw [e]
    exact Ev.some _
  | true =>
    simp only [↓reduceIte]
    have h1 := refplain_ev nm hp ht hT
    have h2 := refordinary_ev (ps := ps) nm ht hT
    rw [hv] at h1 h2
    unfold basicS
    refine Ev.bind h1 ?_
    by_cases h : plainS true ps ts = true
    · simp only [h, ↓reduceIte]; exact Ev.bind h2 (Ev.some _)
    · simp only [h]; exact Ev.some _
/-! ### state machines -/
def stmP (ts : List Tra) : Prop := ∀ i, i < ts.length → (ts.getD i zT).f1.length = 1 ∧ (ts.getD i zT).f2.length = 1
open Classical in
noncomputable def stmS (b : Bool) (ts : List Tra) : Bool := decide (b = true ∧ stmP ts)
theorem sm_ev (hp : ps.length ≤ 1000000) (ht : ts.length ≤ 1000000) (hT : Thin ts) : Ev (fun k => netclass_StateMachine.f k nm ps ts) (stmS (basicS (validS nm ps ts) ps ts) ts) := by
  unfold netclass_StateMachine.f
  refine Ev.bind (simple_ev hp ht hT) ?_
  cases hb : basicS (validS nm ps ts) ps ts with
  | false => rw [show stmS false ts = false from dec_f fun h => by cases h.1]; exact Ev.some _
  | true =>
    simp only [↓reduceIte]
    refine Ev_ex (L := fun k i => netclass_StateMachine.l0 k ts (ts.length : Int) (i : Int)) (n := ts.length) (fun i => ¬ ((ts.getD i zT).f1.length = 1 ∧ (ts.getD i zT).f2.length = 1)) (a := false) (e := true) (fun i hi hc => Ev.one fun k => ?_) (fun i hi hc r hr => Ev.step (fun k => ?_) hr) (fun _ => Ev.one fun k => ?_) (fun ⟨j, hj, hn⟩ => dec_f fun h => hn (h.2 j hj)) (fun h => dec_t ⟨rfl, fun i hi => Classical.not_not.1 (h i hi)⟩)
    · simp only [netclass_StateMachine.l0]
      rw [if_pos (by omega), if_pos (by omega), if_pos (by omega), rdT]
      by_cases c1 : (ts.getD i zT).f1.length = 1
      · rw [if_pos (by omega), if_neg (by omega)]
      · rw [if_neg (by omega)]
    · have hc := Classical.not_not.1 hc
      simp only [netclass_StateMachine.l0]
      rw [if_pos (by omega), if_pos (by omega), if_pos (by omega), rdT, if_pos (by omega), if_pos (by omega), wrap_up hi (by omega)]
    · simp only [netclass_StateMachine.l0]
      rw [if_neg (by omega)]
theorem refsm_ev (hp : ps.length ≤ 1000000) (ht : ts.length ≤ 1000000) (hT : Thin ts) : Ev (fun k => r13_StateMachine.f k nm ps ts) (stmS (basicS (validS nm ps ts) ps ts) ts) := by
  unfold r13_StateMachine.f
  refine Ev_ex (L := fun k i => r13_StateMachine.l0 k (i : Int) nm ps ts) (n := ts.length) (fun i => ¬ ((ts.getD i zT).f1.length = 1 ∧ (ts.getD i zT).f2.length = 1)) (a := false) (e := basicS (validS nm ps ts) ps ts) (fun i hi hc => Ev.one fun k => ?_) (fun i hi hc r hr => Ev.step (fun k => ?_) hr) (fun _ => Ev.step (fun k => ?_) (Ev.bind (refbasic_ev hp ht hT) (Ev.some _))) (fun ⟨j, hj, hn⟩ => dec_f fun h => hn (h.2 j hj)) (fun h => ?_)
  · simp only [r13_StateMachine.l0]
    rw [if_pos (by omega), if_pos (by omega), rdT]
    by_cases c1 : (ts.getD i zT).f1.length = 1
    · rw [if_pos (by omega), if_neg (by omega)]
    · rw [if_neg (by omega)]
  · have hc := Classical.not_not.1 hc
    simp only [r13_StateMachine.l0]
    rw [if_pos (by omega), if_pos (by omega), rdT, if_pos (by omega), if_pos (by omega), wrap_up hi (by omega)]
  · simp only [r13_StateMachine.l0]
    rw [if_neg (by omega)]
  · cases hb : basicS (validS nm ps ts) ps ts with
    | false => exact dec_f fun h => by cases h.1
    | true => exact dec_t ⟨rfl, fun i hi => Classical.not_not.1 (h i hi)⟩
/-! ### marked graphs -/
def mgP (ps : List Pla) (ts : List Tra) : Prop := ∀ p, p < ps.length → (producersS true ts (p : Int)).length = 1 ∧ (consumersS true ts (p : Int)).length = 1
open Classical in
noncomputable def mgS (b : Bool) (ps : List Pla) (ts : List Tra) : Bool := decide (b = true ∧ mgP ps ts)
theorem mg_ev (hp : ps.length ≤ 1000000) (ht : ts.length ≤ 1000000) (hT : Thin ts) : Ev (fun k => netclass_MarkedGraph.f k nm ps ts) (mgS (basicS (validS nm ps ts) ps ts) ps ts) := by
  unfold netclass_MarkedGraph.f
  refine Ev.bind (simple_ev hp ht hT) ?_
  cases hb : basicS (validS nm ps ts) ps ts with
  | false => rw [show mgS false ps ts = false from dec_f fun h => by cases h.1]; exact Ev.some _
  | true =>
    simp only [↓reduceIte]
    have hv := basic_v hb
    refine Ev_ex (L := fun k i => netclass_MarkedGraph.l0 k (ps.length : Int) (i : Int) nm ps ts) (n := ps.length) (fun p => ¬ ((producersS true ts (p : Int)).length = 1 ∧ (consumersS true ts (p : Int)).length = 1)) (a := false) (e := true) (fun i hi hc => ?_) (fun i hi hc r hr => ?_) (fun _ => Ev.one fun k => ?_) (fun ⟨j, hj, hn⟩ => dec_f fun h => hn (h.2 j hj)) (fun h => dec_t ⟨rfl, fun i hi => Classical.not_not.1 (h i hi)⟩)
    · refine Ev.step (fun k => by simp only [netclass_MarkedGraph.l0]; rw [if_pos (by omega)]) ?_
      refine Ev.bind (producers_ev nm (i : Int) ht hT) ?_
      rw [hv]
      by_cases c1 : (producersS true ts (i : Int)).length = 1
      · refine Ev.congr (fun k => if_pos (by omega)) ?_
        refine Ev.bind (consumers_ev nm (i : Int) ht hT) ?_
        rw [hv]
        exact Ev.congr (fun k => if_neg (by omega)) (Ev.some _)
      · exact Ev.congr (fun k => if_neg (by omega)) (Ev.some _)
    · have hc := Classical.not_not.1 hc
      refine Ev.step (fun k => by simp only [netclass_MarkedGraph.l0]; rw [if_pos (by omega), wrap_up hi (by omega)]) ?_
      refine Ev.bind (producers_ev nm (i : Int) ht hT) ?_
      rw [hv]
      refine Ev.congr (fun k => if_pos (by omega)) ?_
      refine Ev.bind (consumers_ev nm (i : Int) ht hT) ?_
      rw [hv]
      exact Ev.congr (fun k => if_pos (by omega)) hr
    · simp only [netclass_MarkedGraph.l0]
      rw [if_neg (by omega)]
theorem refmg_ev (hp : ps.length ≤ 1000000) (ht : ts.length ≤ 1000000) (hT : Thin ts) : Ev (fun k => r13_MarkedGraph.f k nm ps ts) (mgS (basicS (validS nm ps ts) ps ts) ps ts) := by
  unfold r13_MarkedGraph.f
  have hb' := refbasic_ev (nm := nm) hp ht hT
  cases hb : basicS (validS nm ps ts) ps ts with
  | false =>
    rw [show mgS false ps ts = false from dec_f fun h => by cases h.1]
    rw [hb] at hb'
    have hj : Ev (fun k => r13_MarkedGraph.j1 k 0 false nm ps ts) false := Ev.step (fun k => by simp only [r13_MarkedGraph.j1]; rw [if_neg Bool.false_ne_true]) (Ev.bind hb' (Ev.some _))
    by_cases c : (0 : Int) < (ps.length : Int)
    · refine Ev.step (fun k => by simp only [r13_MarkedGraph.l0]; rw [if_pos c]) (Ev.bind hb' hj)
    · refine Ev.step (fun k => by simp only [r13_MarkedGraph.l0]; rw [if_neg c]) hj
  | true =>
    rw [hb] at hb'
    have hv := basic_v hb
    refine Ev_ex (L := fun k i => r13_MarkedGraph.l0 k (i : Int) nm ps ts) (n := ps.length) (fun p => ¬ ((producersS true ts (p : Int)).length = 1 ∧ (consumersS true ts (p : Int)).length = 1)) (a := false) (e := true) (fun i hi hc => ?_) (fun i hi hc r hr => ?_) (fun _ => ?_) (fun ⟨j, hj, hn⟩ => dec_f fun h => hn (h.2 j hj)) (fun h => dec_t ⟨rfl, fun i hi => Classical.not_not.1 (h i hi)⟩)
    · refine Ev.step (fun k => by simp only [r13_MarkedGraph.l0]; rw [if_pos (by omega)]) ?_
      refine Ev.bind hb' ?_
      refine Ev.step (fun k => by simp only [r13_MarkedGraph.j1]; rw [if_pos trivial]) ?_
      refine Ev.bind (refproducers_ev nm (i : Int) ht hT) ?_
      rw [hv]
      by_cases c1 : (producersS true ts (i : Int)).length = 1
      · refine Ev.congr (fun k => if_pos (by omega)) ?_
        refine Ev.bind (refconsumers_ev nm (i : Int) ht hT) ?_
        rw [hv]
        exact Ev.congr (fun k => if_neg (by omega)) (Ev.some _)
      · exact Ev.congr (fun k => if_neg (by omega)) (Ev.some _)
    · have hc := Classical.not_not.1 hc
      refine Ev.step (fun k => by simp only [r13_MarkedGraph.l0]; rw [if_pos (by omega)]) ?_
      refine Ev.bind hb' ?_
      refine Ev.step (fun k => by simp only [r13_MarkedGraph.j1]; rw [if_pos trivial, wrap_up hi (by omega)]) ?_
      refine Ev.bind (refproducers_ev nm (i : Int) ht hT) ?_
      rw [hv]
      refine Ev.congr (fun k => if_pos (by omega)) ?_
      refine Ev.bind (refconsumers_ev nm (i : Int) ht hT) ?_
      rw [hv]
      exact Ev.congr (fun k => if_pos (by omega)) hr
    · refine Ev.step (fun k => by simp only [r13_MarkedGraph.l0]; rw [if_neg (by omega)]) ?_
      exact Ev.step (fun k => by simp only [r13_MarkedGraph.j1]; rw [if_neg Bool.false_ne_true]) (Ev.bind hb' (Ev.some _))
end
end Go.Proofs.Ytplljicodflagaa.Pl
/- What a valid net is. -/
namespace Go.Proofs.Ytplljicodflagaa.Pl
open Go.RowKit Go.Proofs.Ytplljicodflagaa.P Go.Proofs.YtplljicodflagaaW.PrintWords Go.Proofs.YtplljicodflagaaW.PrintMore

structure ValidN (nm : ByteArray) (ps : List Pla) (ts : List Tra) : Prop where
  n : nameB nm = true
  p0 : 1 ≤ ps.length
  p : ps.length ≤ 24
  t : ts.length ≤ 24
  pl : ∀ i, i < ps.length → plR ps i = 0
  tr : ∀ i, i < ts.length → trR ps ts i = 0
theorem validS_iff {nm : ByteArray} {ps : List Pla} {ts : List Tra} : validS nm ps ts = true ↔ ValidN nm ps ts := by
  unfold validS checkS
  constructor
  · intro h
    by_cases h1 : nameB nm = true
    · rw [if_pos h1] at h
      by_cases h2 : (ps.length : Int) < 1 ∨ (24 : Int) < (ps.length : Int) ∨ (24 : Int) < (ts.length : Int)
      · rw [if_pos h2] at h; simp at h
      · rw [if_neg h2] at h
        rcases first_cases (pF ps) (first (tF ps ts) (0, 0) ts.length) ps.length with ⟨a1, a2⟩ | ⟨j, a1, a2, _⟩
        · rw [a1] at h
          rcases first_cases (tF ps ts) ((0 : Int), (0 : Int)) ts.length with ⟨b1, b2⟩ | ⟨j, b1, b2, _⟩
          · exact ⟨h1, by omega, by omega, by omega, fun i hi => of_ite_none (a2 i hi), fun i hi => of_ite_none (b2 i hi)⟩
          · obtain ⟨c1, c2⟩ := of_ite_some b2
            rw [← c2] at h
            exact absurd (beq_iff_eq.1 h) c1
        · obtain ⟨c1, c2⟩ := of_ite_some a2
          rw [← c2] at h
          exact absurd (beq_iff_eq.1 h) c1
    · rw [if_neg h1] at h; simp at h
  · rintro ⟨h1, h2, h3, h4, h5, h6⟩
    rw [if_pos h1, if_neg (by omega), first_all (fun j hj => by unfold pF; rw [if_pos (h5 j hj)]), first_all (fun j hj => by unfold tF; rw [if_pos (h6 j hj)])]
    rfl
section
variable {nm : ByteArray} {ps : List Pla} {ts : List Tra} (h : ValidN nm ps ts)
include h
theorem ValidN.trName {i : Nat} (hi : i < ts.length) : nmE (ps.map (·.f0) ++ (ts.take i).map (·.f0)) (ts.getD i zT).f0 = 0 ∧ transE (ps.length : Int) (ts.getD i zT) = 0 := by
  have := h.tr i hi
  unfold trR at this
  by_cases c : nmE (ps.map (·.f0) ++ (ts.take i).map (·.f0)) (ts.getD i zT).f0 = 0
  · rw [if_neg (by simpa using c)] at this; exact ⟨c, this⟩
  · rw [if_pos c] at this; exact absurd this c
theorem ValidN.arcs {i : Nat} (hi : i < ts.length) : (0 ≤ (ts.getD i zT).f4 ∧ (ts.getD i zT).f4 ≤ 9) ∧ arcsE (ps.length : Int) (ts.getD i zT).f1 = 0 ∧ arcsE (ps.length : Int) (ts.getD i zT).f2 = 0 ∧ arcsE (ps.length : Int) (ts.getD i zT).f3 = 0 := by
  have := (h.trName hi).2
  unfold transE at this
  by_cases c : (ts.getD i zT).f4 < 0 ∨ (ts.getD i zT).f4 > 9
  · rw [if_pos c] at this; exact absurd this (by decide)
  · rw [if_neg c] at this
    by_cases c1 : arcsE (ps.length : Int) (ts.getD i zT).f1 = 0
    · rw [if_neg (by simpa using c1)] at this
      by_cases c2 : arcsE (ps.length : Int) (ts.getD i zT).f2 = 0
      · rw [if_neg (by simpa using c2)] at this; exact ⟨by omega, c1, c2, this⟩
      · rw [if_pos c2] at this; exact absurd this c2
    · rw [if_pos c1] at this; exact absurd this c1
end
theorem arcE_none {np : Int} {l : List Ac} {i : Nat} (h : arcE np l i = none) : 0 ≤ (l.getD i zA).f0 ∧ (l.getD i zA).f0 < np ∧ (0 < i → (l.getD (i - 1) zA).f0 < (l.getD i zA).f0) ∧ 1 ≤ (l.getD i zA).f1 ∧ (l.getD i zA).f1 ≤ 99 := by
  unfold arcE at h
  by_cases c1 : (l.getD i zA).f0 < 0 ∨ (l.getD i zA).f0 ≥ np
  · rw [if_pos c1] at h; cases h
  · rw [if_neg c1] at h
    by_cases c2 : 0 < i ∧ (l.getD (i - 1) zA).f0 ≥ (l.getD i zA).f0
    · rw [if_pos c2] at h; cases h
    · rw [if_neg c2] at h
      by_cases c3 : (l.getD i zA).f1 < 1 ∨ (l.getD i zA).f1 > 99
      · rw [if_pos c3] at h; cases h
      · exact ⟨by omega, by omega, fun hi => Int.not_le.1 fun hc => c2 ⟨hi, hc⟩, by omega, by omega⟩
theorem arcE_some {np : Int} {l : List Ac} {i : Nat} {r : Int} (h : arcE np l i = some r) : r ≠ 0 := by
  unfold arcE at h
  by_cases c1 : (l.getD i zA).f0 < 0 ∨ (l.getD i zA).f0 ≥ np
  · rw [if_pos c1] at h; cases h; decide
  · rw [if_neg c1] at h
    by_cases c2 : 0 < i ∧ (l.getD (i - 1) zA).f0 ≥ (l.getD i zA).f0
    · rw [if_pos c2] at h; cases h; decide
    · rw [if_neg c2] at h
      by_cases c3 : (l.getD i zA).f1 < 1 ∨ (l.getD i zA).f1 > 99
      · rw [if_pos c3] at h; cases h; decide
      · rw [if_neg c3] at h; cases h
theorem arcsE_zero {np : Int} {l : List Ac} (h : arcsE np l = 0) : ∀ i, i < l.length → 0 ≤ (l.getD i zA).f0 ∧ (l.getD i zA).f0 < np ∧ (0 < i → (l.getD (i - 1) zA).f0 < (l.getD i zA).f0) ∧ 1 ≤ (l.getD i zA).f1 ∧ (l.getD i zA).f1 ≤ 99 := by
  intro i hi
  unfold arcsE at h
  rcases first_cases (arcE np l) 0 l.length with ⟨_, h2⟩ | ⟨j, _, h2, _⟩
  · exact arcE_none (h2 i hi)
  · rw [h] at h2
    exact absurd rfl (arcE_some h2)
theorem arcs_lt {np : Int} {l : List Ac} (h : arcsE np l = 0) {i j : Nat} (hij : i < j) (hj : j < l.length) : (l.getD i zA).f0 < (l.getD j zA).f0 := by
  obtain ⟨d, rfl⟩ : ∃ d, j = i + 1 + d := ⟨j - (i + 1), by omega⟩
  induction d with
  | zero => have := (arcsE_zero h (i + 1) hj).2.2.1 (by omega); simpa using this
  | succ d ih =>
    have h1 := ih (by omega) (by omega)
    have h2 := (arcsE_zero h (i + 1 + (d + 1)) hj).2.2.1 (by omega)
    rw [show i + 1 + (d + 1) - 1 = i + 1 + d by omega] at h2
    omega
/-- The weight of a place in a list without errors: positive exactly for the places of the list. -/
theorem weight_pos {np : Int} {l : List Ac} (h : arcsE np l = 0) (p : Int) : weightS l p > 0 ↔ p ∈ l.map (·.f0) := by
  unfold weightS
  rcases first_cases (fun i => if (l.getD i zA).f0 = p then some (l.getD i zA).f1 else none) 0 l.length with ⟨h1, h2⟩ | ⟨j, h1, h2, _⟩
  · rw [h1]
    constructor
    · intro hh; exact absurd hh (by decide)
    · intro hm
      obtain ⟨a, ha, rfl⟩ := List.mem_map.1 hm
      obtain ⟨i, hi, rfl⟩ := List.getElem_of_mem ha
      have := h2 i hi
      rw [List.getD_eq_getElem?_getD, List.getElem?_eq_getElem hi] at this
      simp at this
  · by_cases c : (l.getD j zA).f0 = p
    · simp only [c, if_true] at h2
      have := arcsE_zero h j h1
      constructor
      · intro _; exact List.mem_map.2 ⟨_, getD_mem l zA h1, c⟩
      · intro _; rw [← Option.some.inj h2]; omega
    · simp only [c, if_false] at h2; cases h2
theorem weight_nn {np : Int} {l : List Ac} (h : arcsE np l = 0) (p : Int) : 0 ≤ weightS l p ∧ weightS l p ≤ 99 := by
  unfold weightS
  rcases first_cases (fun i => if (l.getD i zA).f0 = p then some (l.getD i zA).f1 else none) 0 l.length with ⟨h1, h2⟩ | ⟨j, h1, h2, _⟩
  · rw [h1]; decide
  · by_cases c : (l.getD j zA).f0 = p
    · simp only [c, if_true] at h2
      have := arcsE_zero h j h1
      rw [← Option.some.inj h2]; omega
    · simp only [c, if_false] at h2; cases h2
end Go.Proofs.Ytplljicodflagaa.Pl
/- Free-choice and asymmetric nets, by both texts. -/
namespace Go.Proofs.Ytplljicodflagaa.Pl
set_option linter.unusedVariables false
open Go.RowKit Go.Proofs.Ytplljicodflagaa.P Go.Proofs.YtplljicodflagaaW.PrintWords Go.Proofs.YtplljicodflagaaW.PrintMore

theorem among_ev (l : List Int) (x : Int) (hl : l.length ≤ 1000000) : Ev (fun k => netclass_among.f k l x) (decide (x ∈ l)) := by
  unfold netclass_among.f
  refine Ev_ex (L := fun k i => netclass_among.l0 k x l (l.length : Int) (i : Int)) (n := l.length) (fun i => rd l (i : Int) = x) (a := true) (e := false) (fun i hi hc => Ev.one fun k => ?_) (fun i hi hc r hr => Ev.step (fun k => ?_) hr) (fun _ => Ev.one fun k => ?_) (fun ⟨j, hj, hn⟩ => dec_t (by rw [← hn]; exact rd_mem (by omega) (by omega))) (fun h => dec_f fun hm => ?_)
  · simp only [netclass_among.l0]
    rw [if_pos (by omega), if_pos (by omega), if_pos (by omega), if_pos hc]
  · simp only [netclass_among.l0]
    rw [if_pos (by omega), if_pos (by omega), if_pos (by omega), if_neg hc, wrap_up hi (by omega)]
  · simp only [netclass_among.l0]
    rw [if_neg (by omega)]
  · obtain ⟨i, hi, e⟩ := mem_rd hm
    exact h i hi e
theorem within_ev (a b : List Int) (ha : a.length ≤ 1000000) (hb : b.length ≤ 1000000) : Ev (fun k => netclass_within.f k a b) (decide (∀ x ∈ a, x ∈ b)) := by
  unfold netclass_within.f
  refine Ev_ex (L := fun k i => netclass_within.l0 k b a (a.length : Int) (i : Int)) (n := a.length) (fun i => rd a (i : Int) ∉ b) (a := false) (e := true) (fun i hi hc => ?_) (fun i hi hc r hr => ?_) (fun _ => Ev.one fun k => ?_) (fun ⟨j, hj, hn⟩ => dec_f fun h => hn (h _ (rd_mem (by omega) (by omega)))) (fun h => dec_t fun x hx => ?_)
  · refine Ev.step (fun k => by simp only [netclass_within.l0]; rw [if_pos (by omega), if_pos (by omega), if_pos (by omega)]) ?_
    refine Ev.bind (among_ev b _ hb) ?_
    rw [dec_f hc]
    exact Ev.some _
  · refine Ev.step (fun k => by simp only [netclass_within.l0]; rw [if_pos (by omega), if_pos (by omega), if_pos (by omega), wrap_up hi (by omega)]) ?_
    refine Ev.bind (among_ev b _ hb) ?_
    rw [dec_t (Classical.not_not.1 hc)]
    exact hr
  · simp only [netclass_within.l0]
    rw [if_neg (by omega)]
  · obtain ⟨i, hi, e⟩ := mem_rd hx
    rw [← e]; exact Classical.not_not.1 (h i hi)
theorem meet_ev (a b : List Int) (ha : a.length ≤ 1000000) (hb : b.length ≤ 1000000) : Ev (fun k => netclass_meet.f k a b) (decide (∃ x ∈ a, x ∈ b)) := by
  unfold netclass_meet.f
  refine Ev_ex (L := fun k i => netclass_meet.l0 k b a (a.length : Int) (i : Int)) (n := a.length) (fun i => rd a (i : Int) ∈ b) (a := true) (e := false) (fun i hi hc => ?_) (fun i hi hc r hr => ?_) (fun _ => Ev.one fun k => ?_) (fun ⟨j, hj, hn⟩ => dec_t ⟨_, rd_mem (by omega) (by omega), hn⟩) (fun h => dec_f fun ⟨x, hx, hy⟩ => ?_)
  · refine Ev.step (fun k => by simp only [netclass_meet.l0]; rw [if_pos (by omega), if_pos (by omega), if_pos (by omega)]) ?_
    refine Ev.bind (among_ev b _ hb) ?_
    rw [dec_t hc]
    exact Ev.some _
  · refine Ev.step (fun k => by simp only [netclass_meet.l0]; rw [if_pos (by omega), if_pos (by omega), if_pos (by omega), wrap_up hi (by omega)]) ?_
    refine Ev.bind (among_ev b _ hb) ?_
    rw [dec_f hc]
    exact hr
  · simp only [netclass_meet.l0]
    rw [if_neg (by omega)]
  · obtain ⟨i, hi, e⟩ := mem_rd hx
    exact h i hi (by rw [e]; exact hy)
/-! ### consumers -/
def Cm (ts : List Tra) (p t : Nat) : Prop := weightS (ts.getD t zT).f1 (p : Int) > 0
def meetP (ts : List Tra) (p q : Nat) : Prop := ∃ t, t < ts.length ∧ Cm ts p t ∧ Cm ts q t
def withinP (ts : List Tra) (p q : Nat) : Prop := ∀ t, t < ts.length → Cm ts p t → Cm ts q t
theorem mem_cons {ts : List Tra} {p : Nat} {x : Int} : x ∈ consumersS true ts (p : Int) ↔ ∃ t : Nat, x = (t : Int) ∧ t < ts.length ∧ Cm ts p t := by
  unfold consumersS
  rw [if_pos rfl]
  constructor
  · intro h
    obtain ⟨t, ht, e⟩ := List.mem_map.1 h
    obtain ⟨h1, h2⟩ := List.mem_filter.1 ht
    exact ⟨t, e.symm, List.mem_range.1 h1, by unfold Cm; exact of_decide_eq_true h2⟩
  · rintro ⟨t, rfl, h1, h2⟩
    exact List.mem_map.2 ⟨t, List.mem_filter.2 ⟨List.mem_range.2 h1, decide_eq_true (p := weightS (ts.getD t zT).f1 (p : Int) > 0) h2⟩, rfl⟩
theorem cons_len (ts : List Tra) (p : Int) (ht : ts.length ≤ 1000000) : (consumersS true ts p).length ≤ 1000000 := by
  unfold consumersS; rw [if_pos rfl]; exact Nat.le_trans (filter_len _ _) ht
theorem cons_within {ts : List Tra} {p q : Nat} : (∀ x ∈ consumersS true ts (p : Int), x ∈ consumersS true ts (q : Int)) ↔ withinP ts p q := by
  constructor
  · intro h t ht hc
    obtain ⟨u, e, _, h2⟩ := mem_cons.1 (h _ (mem_cons.2 ⟨t, rfl, ht, hc⟩))
    obtain rfl : t = u := by omega
    exact h2
  · intro h x hx
    obtain ⟨t, rfl, h1, h2⟩ := mem_cons.1 hx
    exact mem_cons.2 ⟨t, rfl, h1, h t h1 h2⟩
theorem cons_meet {ts : List Tra} {p q : Nat} : (∃ x ∈ consumersS true ts (p : Int), x ∈ consumersS true ts (q : Int)) ↔ meetP ts p q := by
  constructor
  · rintro ⟨x, h1, h2⟩
    obtain ⟨t, rfl, a1, a2⟩ := mem_cons.1 h1
    obtain ⟨u, e, _, b2⟩ := mem_cons.1 h2
    obtain rfl : t = u := by omega
    exact ⟨t, a1, a2, b2⟩
  · rintro ⟨t, h1, h2, h3⟩
    exact ⟨_, mem_cons.2 ⟨t, rfl, h1, h2⟩, mem_cons.2 ⟨t, rfl, h1, h3⟩⟩
theorem meet_sym {ts : List Tra} {p q : Nat} (h : meetP ts p q) : meetP ts q p := by
  obtain ⟨t, h1, h2, h3⟩ := h; exact ⟨t, h1, h3, h2⟩
section
variable {nm : ByteArray} {ps : List Pla} {ts : List Tra}
open Classical in
theorem refmeet_ev (p q : Nat) (hT : Thin ts) (ht : ts.length ≤ 1000000) : Ev (fun k => r13_meet.f k nm ps ts (p : Int) (q : Int)) (decide (meetP ts p q)) := by
  unfold r13_meet.f
  refine Ev_ex (L := fun k i => r13_meet.l0 k (p : Int) (q : Int) (i : Int) nm ps ts) (n := ts.length) (fun t => Cm ts p t ∧ Cm ts q t) (a := true) (e := false) (fun i hi hc => ?_) (fun i hi hc r hr => ?_) (fun _ => Ev.one fun k => ?_) (fun ⟨j, hj, h1, h2⟩ => dec_t ⟨j, hj, h1, h2⟩) (fun h => dec_f fun ⟨t, h0, h1, h2⟩ => h t h0 ⟨h1, h2⟩)
  · refine Ev.step (fun k => by simp only [r13_meet.l0]; rw [if_pos (by omega), if_pos (by omega), rdT]) ?_
    refine Ev.bind (refweight_ev _ _ (hT.at hi).2.1) ?_
    refine Ev.congr (fun k => if_pos hc.1) ?_
    refine Ev.bind (refweight_ev _ _ (hT.at hi).2.1) ?_
    exact Ev.congr (fun k => if_pos hc.2) (Ev.some _)
  · refine Ev.step (fun k => by simp only [r13_meet.l0]; rw [if_pos (by omega), if_pos (by omega), rdT, wrap_up hi (by omega)]) ?_
    refine Ev.bind (refweight_ev _ _ (hT.at hi).2.1) ?_
    by_cases h1 : Cm ts p i
    · refine Ev.congr (fun k => if_pos h1) ?_
      refine Ev.bind (refweight_ev _ _ (hT.at hi).2.1) ?_
      exact Ev.congr (fun k => if_neg (fun h2 => hc ⟨h1, h2⟩)) hr
    · exact Ev.congr (fun k => if_neg h1) hr
  · simp only [r13_meet.l0]
    rw [if_neg (by omega)]
open Classical in
theorem refwithin_ev (V : ValidN nm ps ts) (p q : Nat) (hT : Thin ts) (ht : ts.length ≤ 1000000) : Ev (fun k => r13_within.f k nm ps ts (p : Int) (q : Int)) (decide (withinP ts p q)) := by
  unfold r13_within.f
  have hz : ∀ i, i < ts.length → (weightS (ts.getD i zT).f1 (q : Int) = 0 ↔ ¬ Cm ts q i) := fun i hi => by
    have := weight_nn (V.arcs hi).2.1 (q : Int)
    unfold Cm; omega
  refine Ev_ex (L := fun k i => r13_within.l0 k (p : Int) (q : Int) (i : Int) nm ps ts) (n := ts.length) (fun t => Cm ts p t ∧ ¬ Cm ts q t) (a := false) (e := true) (fun i hi hc => ?_) (fun i hi hc r hr => ?_) (fun _ => Ev.one fun k => ?_) (fun ⟨j, hj, h1, h2⟩ => dec_f fun h => h2 (h j hj h1)) (fun h => dec_t fun t h0 h1 => Classical.byContradiction fun h2 => h t h0 ⟨h1, h2⟩)
  · refine Ev.step (fun k => by simp only [r13_within.l0]; rw [if_pos (by omega), if_pos (by omega), rdT]) ?_
    refine Ev.bind (refweight_ev _ _ (hT.at hi).2.1) ?_
    refine Ev.congr (fun k => if_pos hc.1) ?_
    refine Ev.bind (refweight_ev _ _ (hT.at hi).2.1) ?_
    exact Ev.congr (fun k => if_pos ((hz i hi).2 hc.2)) (Ev.some _)
  · refine Ev.step (fun k => by simp only [r13_within.l0]; rw [if_pos (by omega), if_pos (by omega), rdT, wrap_up hi (by omega)]) ?_
    refine Ev.bind (refweight_ev _ _ (hT.at hi).2.1) ?_
    by_cases h1 : Cm ts p i
    · refine Ev.congr (fun k => if_pos h1) ?_
      refine Ev.bind (refweight_ev _ _ (hT.at hi).2.1) ?_
      exact Ev.congr (fun k => if_neg (fun h2 => (hz i hi).1 h2 (Classical.byContradiction fun h3 => hc ⟨h1, h3⟩))) hr
    · exact Ev.congr (fun k => if_neg h1) hr
  · simp only [r13_within.l0]
    rw [if_neg (by omega)]
def freeP (ps : List Pla) (ts : List Tra) : Prop := ∀ p, p < ps.length → ∀ q, q < ps.length → meetP ts p q → withinP ts p q ∧ withinP ts q p
def asymP (ps : List Pla) (ts : List Tra) : Prop := ∀ p, p < ps.length → ∀ q, q < ps.length → meetP ts p q → withinP ts p q ∨ withinP ts q p
open Classical in
noncomputable def freeS (b : Bool) (ps : List Pla) (ts : List Tra) : Bool := decide (b = true ∧ freeP ps ts)
open Classical in
noncomputable def asymS (b : Bool) (ps : List Pla) (ts : List Tra) : Bool := decide (b = true ∧ asymP ps ts)
/-! ### FreeChoice -/
open Classical in
theorem okFreeChoice_ev (p q : Nat) (ht : ts.length ≤ 1000000) : Ev (fun k => netclass_FreeChoice_1.f k (consumersS true ts (p : Int)) (consumersS true ts (q : Int))) (decide (withinP ts p q ∧ withinP ts q p)) := by
  unfold netclass_FreeChoice_1.f
  refine Ev.bind (within_ev _ _ (cons_len _ _ ht) (cons_len _ _ ht)) ?_
  by_cases h : withinP ts p q
  · refine Ev.congr (fun k => if_pos (dec_t (cons_within.2 h))) ?_
    refine Ev.bind (within_ev _ _ (cons_len _ _ ht) (cons_len _ _ ht)) ?_
    by_cases h2 : withinP ts q p
    · rw [dec_t (cons_within.2 h2), show decide (withinP ts p q ∧ withinP ts q p) = true from dec_t ⟨h, h2⟩]; exact Ev.some _
    · rw [dec_f (fun x => h2 (cons_within.1 x)), show decide (withinP ts p q ∧ withinP ts q p) = false from dec_f fun x => h2 x.2]; exact Ev.some _
  · refine Ev.congr (fun k => if_neg (by rw [dec_f (fun x => h (cons_within.1 x))]; exact Bool.false_ne_true)) ?_
    rw [show decide (withinP ts p q ∧ withinP ts q p) = false from dec_f fun x => h x.1]; exact Ev.some _
theorem free_ev (hp : ps.length ≤ 1000000) (ht : ts.length ≤ 1000000) (hT : Thin ts) : Ev (fun k => netclass_FreeChoice.f k nm ps ts) (freeS (basicS (validS nm ps ts) ps ts) ps ts) := by
  unfold netclass_FreeChoice.f netclass_pairs_FreeChoice_1.f
  refine Ev.bind ?_ (Ev.some _)
  refine Ev.bind (simple_ev hp ht hT) ?_
  cases hb : basicS (validS nm ps ts) ps ts with
  | false => rw [show freeS false ps ts = false from dec_f fun h => by cases h.1]; exact Ev.some _
  | true =>
    simp only [↓reduceIte]
    have hv := basic_v hb
    have inner : ∀ p, p < ps.length → ∀ r, ((∃ q, q < ps.length ∧ (meetP ts p q ∧ ¬ (withinP ts p q ∧ withinP ts q p))) → r = false) → ((∀ q, q < ps.length → ¬ (meetP ts p q ∧ ¬ (withinP ts p q ∧ withinP ts q p))) → ∃ e, Ev (fun k => netclass_pairs_FreeChoice_1.l0 k (ps.length : Int) ((p + 1 : Nat) : Int) nm ps ts) e ∧ r = e) → Ev (fun k => netclass_pairs_FreeChoice_1.l0 k (ps.length : Int) (p : Int) nm ps ts) r := by
      intro p hp' r h1 h2
      refine Ev.step (fun k => by simp only [netclass_pairs_FreeChoice_1.l0]; rw [if_pos (by omega), wrap_up hp' (by omega)]) ?_
      refine Ev.bind (consumers_ev nm (p : Int) ht hT) ?_
      rw [hv]
      by_cases hz : (consumersS true ts (p : Int)).length = 0
      · refine Ev.congr (fun k => if_pos (by omega)) ?_
        obtain ⟨e, he, hr⟩ := h2 fun q hq h => by
          obtain ⟨x, hx, _⟩ := cons_meet.2 h.1
          rw [List.eq_nil_of_length_eq_zero hz] at hx
          cases hx
        rw [hr]; exact he
      · refine Ev.congr (fun k => if_neg (by omega)) ?_
        by_cases hall : ∀ q, q < ps.length → ¬ (meetP ts p q ∧ ¬ (withinP ts p q ∧ withinP ts q p))
        · obtain ⟨e, he, hr⟩ := h2 hall
          rw [hr]
          refine Ev_up (L := fun k q => netclass_pairs_FreeChoice_1.l1 k (consumersS true ts (p : Int)) (ps.length : Int) (p : Int) (ps.length : Int) (q : Int) nm ps ts) (n := ps.length) (fun q hq hr => ?_) (Ev.step (fun k => by simp only [netclass_pairs_FreeChoice_1.l1]; rw [if_neg (by omega), wrap_up hp' (by omega)]) he)
          refine Ev.step (fun k => by simp only [netclass_pairs_FreeChoice_1.l1]; rw [if_pos (by omega), wrap_up hq (by omega)]) ?_
          refine Ev.bind (consumers_ev nm (q : Int) ht hT) ?_
          rw [hv]
          refine Ev.bind (meet_ev _ _ (cons_len _ _ ht) (cons_len _ _ ht)) ?_
          by_cases hm : meetP ts p q
          · refine Ev.congr (fun k => if_pos (dec_t (cons_meet.2 hm))) ?_
            refine Ev.bind (okFreeChoice_ev p q ht) ?_
            exact Ev.congr (fun k => if_pos (dec_t (Classical.byContradiction fun h => hall q hq ⟨hm, h⟩))) hr
          · exact Ev.congr (fun k => if_neg (by rw [dec_f (fun x => hm (cons_meet.1 x))]; exact Bool.false_ne_true)) hr
        · have hex : ∃ q, q < ps.length ∧ (meetP ts p q ∧ ¬ (withinP ts p q ∧ withinP ts q p)) := Classical.byContradiction fun h => hall fun q hq hn => h ⟨q, hq, hn⟩
          rw [h1 hex]
          refine Ev_ex (L := fun k q => netclass_pairs_FreeChoice_1.l1 k (consumersS true ts (p : Int)) (ps.length : Int) (p : Int) (ps.length : Int) (q : Int) nm ps ts) (n := ps.length) (fun q => meetP ts p q ∧ ¬ (withinP ts p q ∧ withinP ts q p)) (a := false) (e := false) (fun q hq hc => ?_) (fun q hq hc r hr => ?_) (fun h => absurd hex fun ⟨q, hq, hn⟩ => h q hq hn) (fun _ => rfl) (fun _ => rfl)
          · refine Ev.step (fun k => by simp only [netclass_pairs_FreeChoice_1.l1]; rw [if_pos (by omega), wrap_up hq (by omega)]) ?_
            refine Ev.bind (consumers_ev nm (q : Int) ht hT) ?_
            rw [hv]
            refine Ev.bind (meet_ev _ _ (cons_len _ _ ht) (cons_len _ _ ht)) ?_
            refine Ev.congr (fun k => if_pos (dec_t (cons_meet.2 hc.1))) ?_
            refine Ev.bind (okFreeChoice_ev p q ht) ?_
            exact Ev.congr (fun k => if_neg (by rw [dec_f hc.2]; exact Bool.false_ne_true)) (Ev.some _)
          · refine Ev.step (fun k => by simp only [netclass_pairs_FreeChoice_1.l1]; rw [if_pos (by omega), wrap_up hq (by omega)]) ?_
            refine Ev.bind (consumers_ev nm (q : Int) ht hT) ?_
            rw [hv]
            refine Ev.bind (meet_ev _ _ (cons_len _ _ ht) (cons_len _ _ ht)) ?_
            by_cases hm : meetP ts p q
            · refine Ev.congr (fun k => if_pos (dec_t (cons_meet.2 hm))) ?_
              refine Ev.bind (okFreeChoice_ev p q ht) ?_
              exact Ev.congr (fun k => if_pos (dec_t (Classical.byContradiction fun h => hc ⟨hm, h⟩))) hr
            · exact Ev.congr (fun k => if_neg (by rw [dec_f (fun x => hm (cons_meet.1 x))]; exact Bool.false_ne_true)) hr
    refine Ev_ex (L := fun k p => netclass_pairs_FreeChoice_1.l0 k (ps.length : Int) (p : Int) nm ps ts) (n := ps.length) (fun p => ∃ q, q < ps.length ∧ (meetP ts p q ∧ ¬ (withinP ts p q ∧ withinP ts q p))) (a := false) (e := true) (fun p hp' hc => inner p hp' false (fun _ => rfl) (fun h => absurd hc fun ⟨q, hq, hn⟩ => h q hq hn)) (fun p hp' hc r hr => inner p hp' r (fun h => absurd h hc) (fun _ => ⟨r, hr, rfl⟩)) (fun _ => Ev.one fun k => by simp only [netclass_pairs_FreeChoice_1.l0]; rw [if_neg (by omega)]) (fun ⟨p, hp', q, hq, hm, hn⟩ => dec_f fun h => hn (h.2 p hp' q hq hm)) (fun h => dec_t ⟨rfl, fun p hp' q hq hm => Classical.byContradiction fun hn => h p hp' ⟨q, hq, hm, hn⟩⟩)
/-! ### Asymmetric -/
open Classical in
theorem okAsymmetric_ev (p q : Nat) (ht : ts.length ≤ 1000000) : Ev (fun k => netclass_Asymmetric_1.f k (consumersS true ts (p : Int)) (consumersS true ts (q : Int))) (decide (withinP ts p q ∨ withinP ts q p)) := by
  unfold netclass_Asymmetric_1.f
  refine Ev.bind (within_ev _ _ (cons_len _ _ ht) (cons_len _ _ ht)) ?_
  by_cases h : withinP ts p q
  · refine Ev.congr (fun k => if_pos (dec_t (cons_within.2 h))) ?_
    rw [show decide (withinP ts p q ∨ withinP ts q p) = true from dec_t (.inl h)]; exact Ev.some _
  · refine Ev.congr (fun k => if_neg (by rw [dec_f (fun x => h (cons_within.1 x))]; exact Bool.false_ne_true)) ?_
    refine Ev.bind (within_ev _ _ (cons_len _ _ ht) (cons_len _ _ ht)) ?_
    by_cases h2 : withinP ts q p
    · rw [dec_t (cons_within.2 h2), show decide (withinP ts p q ∨ withinP ts q p) = true from dec_t (.inr h2)]; exact Ev.some _
    · rw [dec_f (fun x => h2 (cons_within.1 x)), show decide (withinP ts p q ∨ withinP ts q p) = false from dec_f fun x => x.elim h h2]; exact Ev.some _
theorem asym_ev (hp : ps.length ≤ 1000000) (ht : ts.length ≤ 1000000) (hT : Thin ts) : Ev (fun k => netclass_Asymmetric.f k nm ps ts) (asymS (basicS (validS nm ps ts) ps ts) ps ts) := by
  unfold netclass_Asymmetric.f netclass_pairs_Asymmetric_1.f
  refine Ev.bind ?_ (Ev.some _)
  refine Ev.bind (simple_ev hp ht hT) ?_
  cases hb : basicS (validS nm ps ts) ps ts with
  | false => rw [show asymS false ps ts = false from dec_f fun h => by cases h.1]; exact Ev.some _
  | true =>
    simp only [↓reduceIte]
    have hv := basic_v hb
    have inner : ∀ p, p < ps.length → ∀ r, ((∃ q, q < ps.length ∧ (meetP ts p q ∧ ¬ (withinP ts p q ∨ withinP ts q p))) → r = false) → ((∀ q, q < ps.length → ¬ (meetP ts p q ∧ ¬ (withinP ts p q ∨ withinP ts q p))) → ∃ e, Ev (fun k => netclass_pairs_Asymmetric_1.l0 k (ps.length : Int) ((p + 1 : Nat) : Int) nm ps ts) e ∧ r = e) → Ev (fun k => netclass_pairs_Asymmetric_1.l0 k (ps.length : Int) (p : Int) nm ps ts) r := by
      intro p hp' r h1 h2
      refine Ev.step (fun k => by simp only [netclass_pairs_Asymmetric_1.l0]; rw [if_pos (by omega), wrap_up hp' (by omega)]) ?_
      refine Ev.bind (consumers_ev nm (p : Int) ht hT) ?_
      rw [hv]
      by_cases hz : (consumersS true ts (p : Int)).length = 0
      · refine Ev.congr (fun k => if_pos (by omega)) ?_
        obtain ⟨e, he, hr⟩ := h2 fun q hq h => by
          obtain ⟨x, hx, _⟩ := cons_meet.2 h.1
          rw [List.eq_nil_of_length_eq_zero hz] at hx
          cases hx
        rw [hr]; exact he
      · refine Ev.congr (fun k => if_neg (by omega)) ?_
        by_cases hall : ∀ q, q < ps.length → ¬ (meetP ts p q ∧ ¬ (withinP ts p q ∨ withinP ts q p))
        · obtain ⟨e, he, hr⟩ := h2 hall
          rw [hr]
          refine Ev_up (L := fun k q => netclass_pairs_Asymmetric_1.l1 k (consumersS true ts (p : Int)) (ps.length : Int) (p : Int) (ps.length : Int) (q : Int) nm ps ts) (n := ps.length) (fun q hq hr => ?_) (Ev.step (fun k => by simp only [netclass_pairs_Asymmetric_1.l1]; rw [if_neg (by omega), wrap_up hp' (by omega)]) he)
          refine Ev.step (fun k => by simp only [netclass_pairs_Asymmetric_1.l1]; rw [if_pos (by omega), wrap_up hq (by omega)]) ?_
          refine Ev.bind (consumers_ev nm (q : Int) ht hT) ?_
          rw [hv]
          refine Ev.bind (meet_ev _ _ (cons_len _ _ ht) (cons_len _ _ ht)) ?_
          by_cases hm : meetP ts p q
          · refine Ev.congr (fun k => if_pos (dec_t (cons_meet.2 hm))) ?_
            refine Ev.bind (okAsymmetric_ev p q ht) ?_
            exact Ev.congr (fun k => if_pos (dec_t (Classical.byContradiction fun h => hall q hq ⟨hm, h⟩))) hr
          · exact Ev.congr (fun k => if_neg (by rw [dec_f (fun x => hm (cons_meet.1 x))]; exact Bool.false_ne_true)) hr
        · have hex : ∃ q, q < ps.length ∧ (meetP ts p q ∧ ¬ (withinP ts p q ∨ withinP ts q p)) := Classical.byContradiction fun h => hall fun q hq hn => h ⟨q, hq, hn⟩
          rw [h1 hex]
          refine Ev_ex (L := fun k q => netclass_pairs_Asymmetric_1.l1 k (consumersS true ts (p : Int)) (ps.length : Int) (p : Int) (ps.length : Int) (q : Int) nm ps ts) (n := ps.length) (fun q => meetP ts p q ∧ ¬ (withinP ts p q ∨ withinP ts q p)) (a := false) (e := false) (fun q hq hc => ?_) (fun q hq hc r hr => ?_) (fun h => absurd hex fun ⟨q, hq, hn⟩ => h q hq hn) (fun _ => rfl) (fun _ => rfl)
          · refine Ev.step (fun k => by simp only [netclass_pairs_Asymmetric_1.l1]; rw [if_pos (by omega), wrap_up hq (by omega)]) ?_
            refine Ev.bind (consumers_ev nm (q : Int) ht hT) ?_
            rw [hv]
            refine Ev.bind (meet_ev _ _ (cons_len _ _ ht) (cons_len _ _ ht)) ?_
            refine Ev.congr (fun k => if_pos (dec_t (cons_meet.2 hc.1))) ?_
            refine Ev.bind (okAsymmetric_ev p q ht) ?_
            exact Ev.congr (fun k => if_neg (by rw [dec_f hc.2]; exact Bool.false_ne_true)) (Ev.some _)
          · refine Ev.step (fun k => by simp only [netclass_pairs_Asymmetric_1.l1]; rw [if_pos (by omega), wrap_up hq (by omega)]) ?_
            refine Ev.bind (consumers_ev nm (q : Int) ht hT) ?_
            rw [hv]
            refine Ev.bind (meet_ev _ _ (cons_len _ _ ht) (cons_len _ _ ht)) ?_
            by_cases hm : meetP ts p q
            · refine Ev.congr (fun k => if_pos (dec_t (cons_meet.2 hm))) ?_
              refine Ev.bind (okAsymmetric_ev p q ht) ?_
              exact Ev.congr (fun k => if_pos (dec_t (Classical.byContradiction fun h => hc ⟨hm, h⟩))) hr
            · exact Ev.congr (fun k => if_neg (by rw [dec_f (fun x => hm (cons_meet.1 x))]; exact Bool.false_ne_true)) hr
    refine Ev_ex (L := fun k p => netclass_pairs_Asymmetric_1.l0 k (ps.length : Int) (p : Int) nm ps ts) (n := ps.length) (fun p => ∃ q, q < ps.length ∧ (meetP ts p q ∧ ¬ (withinP ts p q ∨ withinP ts q p))) (a := false) (e := true) (fun p hp' hc => inner p hp' false (fun _ => rfl) (fun h => absurd hc fun ⟨q, hq, hn⟩ => h q hq hn)) (fun p hp' hc r hr => inner p hp' r (fun h => absurd h hc) (fun _ => ⟨r, hr, rfl⟩)) (fun _ => Ev.one fun k => by simp only [netclass_pairs_Asymmetric_1.l0]; rw [if_neg (by omega)]) (fun ⟨p, hp', q, hq, hm, hn⟩ => dec_f fun h => hn (h.2 p hp' q hq hm)) (fun h => dec_t ⟨rfl, fun p hp' q hq hm => Classical.byContradiction fun hn => h p hp' ⟨q, hq, hm, hn⟩⟩)
theorem reffree_ev (hp : ps.length ≤ 1000000) (ht : ts.length ≤ 1000000) (hT : Thin ts) : Ev (fun k => r13_FreeChoice.f k nm ps ts) (freeS (basicS (validS nm ps ts) ps ts) ps ts) := by
  unfold r13_FreeChoice.f
  have hb' := refbasic_ev (nm := nm) hp ht hT
  cases hb : basicS (validS nm ps ts) ps ts with
  | false =>
    rw [show freeS false ps ts = false from dec_f fun h => by cases h.1]
    rw [hb] at hb'
    have hj : Ev (fun k => r13_FreeChoice.j1 k 0 false nm ps ts) false := Ev.step (fun k => by simp only [r13_FreeChoice.j1]; rw [if_neg Bool.false_ne_true]) (Ev.bind hb' (Ev.some _))
    by_cases c : (0 : Int) < (ps.length : Int)
    · refine Ev.step (fun k => by simp only [r13_FreeChoice.l0]; rw [if_pos c]) (Ev.bind hb' hj)
    · refine Ev.step (fun k => by simp only [r13_FreeChoice.l0]; rw [if_neg c]) hj
  | true =>
    rw [hb] at hb'
    have V := validS_iff.1 (basic_v hb)
    have body : ∀ p q, p < ps.length → q < ps.length → ∀ r, (meetP ts p q ∧ ¬ (withinP ts p q) → r = false) → (¬ (meetP ts p q ∧ ¬ (withinP ts p q)) → Ev (fun k => r13_FreeChoice.l1 k (p : Int) ((q + 1 : Nat) : Int) nm ps ts) r) → Ev (fun k => r13_FreeChoice.l1 k (p : Int) (q : Int) nm ps ts) r := by
      intro p q hp' hq r h1 h2
      refine Ev.step (fun k => by simp only [r13_FreeChoice.l1]; rw [if_pos (by omega), wrap_up hq (by omega)]) ?_
      refine Ev.bind (refmeet_ev p q hT ht) ?_
      by_cases hm : meetP ts p q
      · refine Ev.congr (fun k => if_pos (dec_t hm)) ?_
        refine Ev.bind (refwithin_ev V p q hT ht) ?_
        by_cases hw : withinP ts p q
        · exact Ev.congr (fun k => if_pos (dec_t hw)) (h2 fun h => h.2 hw)
        · refine Ev.congr (fun k => if_neg (by rw [dec_f hw]; exact Bool.false_ne_true)) ?_
          rw [h1 ⟨hm, hw⟩]; exact Ev.some _
      · exact Ev.congr (fun k => if_neg (by rw [dec_f hm]; exact Bool.false_ne_true)) (h2 fun h => hm h.1)
    have enter : ∀ p, p < ps.length → ∀ r, Ev (fun k => r13_FreeChoice.l1 k (p : Int) 0 nm ps ts) r → Ev (fun k => r13_FreeChoice.l0 k (p : Int) nm ps ts) r := fun p hp' r hr =>
      Ev.step (fun k => by simp only [r13_FreeChoice.l0]; rw [if_pos (by omega)]) (Ev.bind hb' (Ev.step (fun k => by simp only [r13_FreeChoice.j1]; rw [if_pos trivial]) hr))
    refine Ev_ex (L := fun k p => r13_FreeChoice.l0 k (p : Int) nm ps ts) (n := ps.length) (fun p => ∃ q, q < ps.length ∧ (meetP ts p q ∧ ¬ (withinP ts p q))) (a := false) (e := true) (fun p hp' hc => ?_) (fun p hp' hc r hr => ?_) (fun _ => ?_) (fun ⟨p, hp', q, hq, hm, hn⟩ => dec_f fun h => hn (h.2 p hp' q hq hm).1) (fun h => dec_t ⟨rfl, fun p hp' q hq hm => ⟨Classical.byContradiction fun hn => h p hp' ⟨q, hq, hm, hn⟩, Classical.byContradiction fun hn => h q hq ⟨p, hp', meet_sym hm, hn⟩⟩⟩)
    · refine enter p hp' _ ?_
      refine Ev_ex (L := fun k q => r13_FreeChoice.l1 k (p : Int) (q : Int) nm ps ts) (n := ps.length) (fun q => meetP ts p q ∧ ¬ (withinP ts p q)) (a := false) (e := false) (fun q hq h => body p q hp' hq _ (fun _ => rfl) (fun hn => absurd h hn)) (fun q hq h r hr => body p q hp' hq _ (fun hn => absurd hn h) (fun _ => hr)) (fun h => absurd hc fun ⟨q, hq, hn⟩ => h q hq hn) (fun _ => rfl) (fun _ => rfl)
    · refine enter p hp' _ ?_
      exact Ev_up (L := fun k q => r13_FreeChoice.l1 k (p : Int) (q : Int) nm ps ts) (n := ps.length) (fun q hq h => body p q hp' hq _ (fun hn => absurd ⟨q, hq, hn⟩ hc) (fun _ => h)) (Ev.step (fun k => by simp only [r13_FreeChoice.l1]; rw [if_neg (by omega), wrap_up hp' (by omega)]) hr)
    · refine Ev.step (fun k => by simp only [r13_FreeChoice.l0]; rw [if_neg (by omega)]) ?_
      exact Ev.step (fun k => by simp only [r13_FreeChoice.j1]; rw [if_neg Bool.false_ne_true]) (Ev.bind hb' (Ev.some _))
theorem refasym_ev (hp : ps.length ≤ 1000000) (ht : ts.length ≤ 1000000) (hT : Thin ts) : Ev (fun k => r13_Asymmetric.f k nm ps ts) (asymS (basicS (validS nm ps ts) ps ts) ps ts) := by
  unfold r13_Asymmetric.f
  have hb' := refbasic_ev (nm := nm) hp ht hT
  cases hb : basicS (validS nm ps ts) ps ts with
  | false =>
    rw [show asymS false ps ts = false from dec_f fun h => by cases h.1]
    rw [hb] at hb'
    have hj : Ev (fun k => r13_Asymmetric.j1 k 0 false nm ps ts) false := Ev.step (fun k => by simp only [r13_Asymmetric.j1]; rw [if_neg Bool.false_ne_true]) (Ev.bind hb' (Ev.some _))
    by_cases c : (0 : Int) < (ps.length : Int)
    · refine Ev.step (fun k => by simp only [r13_Asymmetric.l0]; rw [if_pos c]) (Ev.bind hb' hj)
    · refine Ev.step (fun k => by simp only [r13_Asymmetric.l0]; rw [if_neg c]) hj
  | true =>
    rw [hb] at hb'
    have V := validS_iff.1 (basic_v hb)
    have body : ∀ p q, p < ps.length → q < ps.length → ∀ r, (meetP ts p q ∧ ¬ (withinP ts p q ∨ withinP ts q p) → r = false) → (¬ (meetP ts p q ∧ ¬ (withinP ts p q ∨ withinP ts q p)) → Ev (fun k => r13_Asymmetric.l1 k (p : Int) ((q + 1 : Nat) : Int) nm ps ts) r) → Ev (fun k => r13_Asymmetric.l1 k (p : Int) (q : Int) nm ps ts) r := by
      intro p q hp' hq r h1 h2
      refine Ev.step (fun k => by simp only [r13_Asymmetric.l1]; rw [if_pos (by omega), wrap_up hq (by omega)]) ?_
      refine Ev.bind (refmeet_ev p q hT ht) ?_
      by_cases hm : meetP ts p q
      · refine Ev.congr (fun k => if_pos (dec_t hm)) ?_
        refine Ev.bind (refwithin_ev V p q hT ht) ?_
        by_cases hw : withinP ts p q
        · exact Ev.congr (fun k => if_pos (dec_t hw)) (h2 fun h => h.2 (.inl hw))
        · refine Ev.congr (fun k => if_neg (by rw [dec_f hw]; exact Bool.false_ne_true)) ?_
          refine Ev.bind (refwithin_ev V q p hT ht) ?_
          by_cases hw2 : withinP ts q p
          · exact Ev.congr (fun k => if_pos (dec_t hw2)) (h2 fun h => h.2 (.inr hw2))
          · refine Ev.congr (fun k => if_neg (by rw [dec_f hw2]; exact Bool.false_ne_true)) ?_
            rw [h1 ⟨hm, fun h => h.elim hw hw2⟩]; exact Ev.some _
      · exact Ev.congr (fun k => if_neg (by rw [dec_f hm]; exact Bool.false_ne_true)) (h2 fun h => hm h.1)
    have enter : ∀ p, p < ps.length → ∀ r, Ev (fun k => r13_Asymmetric.l1 k (p : Int) 0 nm ps ts) r → Ev (fun k => r13_Asymmetric.l0 k (p : Int) nm ps ts) r := fun p hp' r hr =>
      Ev.step (fun k => by simp only [r13_Asymmetric.l0]; rw [if_pos (by omega)]) (Ev.bind hb' (Ev.step (fun k => by simp only [r13_Asymmetric.j1]; rw [if_pos trivial]) hr))
    refine Ev_ex (L := fun k p => r13_Asymmetric.l0 k (p : Int) nm ps ts) (n := ps.length) (fun p => ∃ q, q < ps.length ∧ (meetP ts p q ∧ ¬ (withinP ts p q ∨ withinP ts q p))) (a := false) (e := true) (fun p hp' hc => ?_) (fun p hp' hc r hr => ?_) (fun _ => ?_) (fun ⟨p, hp', q, hq, hm, hn⟩ => dec_f fun h => hn (h.2 p hp' q hq hm)) (fun h => dec_t ⟨rfl, fun p hp' q hq hm => Classical.byContradiction fun hn => h p hp' ⟨q, hq, hm, hn⟩⟩)
    · refine enter p hp' _ ?_
      refine Ev_ex (L := fun k q => r13_Asymmetric.l1 k (p : Int) (q : Int) nm ps ts) (n := ps.length) (fun q => meetP ts p q ∧ ¬ (withinP ts p q ∨ withinP ts q p)) (a := false) (e := false) (fun q hq h => body p q hp' hq _ (fun _ => rfl) (fun hn => absurd h hn)) (fun q hq h r hr => body p q hp' hq _ (fun hn => absurd hn h) (fun _ => hr)) (fun h => absurd hc fun ⟨q, hq, hn⟩ => h q hq hn) (fun _ => rfl) (fun _ => rfl)
    · refine enter p hp' _ ?_
      exact Ev_up (L := fun k q => r13_Asymmetric.l1 k (p : Int) (q : Int) nm ps ts) (n := ps.length) (fun q hq h => body p q hp' hq _ (fun hn => absurd ⟨q, hq, hn⟩ hc) (fun _ => h)) (Ev.step (fun k => by simp only [r13_Asymmetric.l1]; rw [if_neg (by omega), wrap_up hp' (by omega)]) hr)
    · refine Ev.step (fun k => by simp only [r13_Asymmetric.l0]; rw [if_neg (by omega)]) ?_
      exact Ev.step (fun k => by simp only [r13_Asymmetric.j1]; rw [if_neg Bool.false_ne_true]) (Ev.bind hb' (Ev.some _))
end
end Go.Proofs.Ytplljicodflagaa.Pl
/- Whether a net is valid, as netclass asks it. -/
namespace Go.Proofs.Ytplljicodflagaa.Pl
open Go.RowKit Go.Proofs.Ytplljicodflagaa.P Go.Proofs.YtplljicodflagaaW.PrintWords Go.Proofs.YtplljicodflagaaW.PrintMore
theorem nvalid_ev (nm : ByteArray) {ps : List Pla} {ts : List Tra} (hT : Thin ts) : Ev (fun k => netclass_valid.f k nm ps ts) (validS nm ps ts) := by
  unfold netclass_valid.f
  exact Ev.bind (check_ev nm hT) (Ev.some _)
end Go.Proofs.Ytplljicodflagaa.Pl
/- Weights of a transition's arcs, the reference's. -/
namespace Go.Proofs.Ytplljicodflagaa.Pl
set_option linter.unusedVariables false
open Go.RowKit Go.Proofs.Ytplljicodflagaa.P Go.Proofs.YtplljicodflagaaW.PrintWords Go.Proofs.YtplljicodflagaaW.PrintMore

theorem refpre_ev (nm : ByteArray) {ps : List Pla} {ts : List Tra} (t p : Int) (hT : Thin ts) : Ev (fun k => r09_Pre.f k nm ps ts t p) (preS (validS nm ps ts) ts t p) := by
  unfold r09_Pre.f preS
  refine Ev.bind (refvalid_ev nm hT) ?_
  by_cases hv : validS nm ps ts = true
  · simp only [hv, ↓reduceIte]
    by_cases c : t < 0 ∨ t ≥ (ts.length : Int)
    · rw [if_pos c]
      exact Ev.congr (f := fun _ => some 0) (fun k => by rw [ite_or2, if_pos c]) (Ev.some _)
    · rw [if_neg c]
      obtain ⟨i, rfl⟩ : ∃ i : Nat, t = i := ⟨t.toNat, by omega⟩
      have hi : i < ts.length := by omega
      refine Ev.congr (f := fun k => (r09_Weight.f k (ts.getD i zT).f1 p).bind fun x => some x) (fun k => by rw [ite_or2, if_neg c, if_pos (by omega), if_pos (by omega), rdT]) ?_
      exact Ev.bind (refweight_ev _ p (hT.at hi).2.1) (Ev.some _)
  · simp only [hv]; exact Ev.some _
theorem refpost_ev (nm : ByteArray) {ps : List Pla} {ts : List Tra} (t p : Int) (hT : Thin ts) : Ev (fun k => r09_Post.f k nm ps ts t p) (postS (validS nm ps ts) ts t p) := by
  unfold r09_Post.f postS
  refine Ev.bind (refvalid_ev nm hT) ?_
  by_cases hv : validS nm ps ts = true
  · simp only [hv, ↓reduceIte]
    by_cases c : t < 0 ∨ t ≥ (ts.length : Int)
    · rw [if_pos c]
      exact Ev.congr (f := fun _ => some 0) (fun k => by rw [ite_or2, if_pos c]) (Ev.some _)
    · rw [if_neg c]
      obtain ⟨i, rfl⟩ : ∃ i : Nat, t = i := ⟨t.toNat, by omega⟩
      have hi : i < ts.length := by omega
      refine Ev.congr (f := fun k => (r09_Weight.f k (ts.getD i zT).f2 p).bind fun x => some x) (fun k => by rw [ite_or2, if_neg c, if_pos (by omega), if_pos (by omega), rdT]) ?_
      exact Ev.bind (refweight_ev _ p (hT.at hi).2.2.1) (Ev.some _)
  · simp only [hv]; exact Ev.some _
end Go.Proofs.Ytplljicodflagaa.Pl
/- Whether a net is pure, by both texts. -/
namespace Go.Proofs.Ytplljicodflagaa.Pl
set_option linter.unusedVariables false
open Go.RowKit Go.Proofs.Ytplljicodflagaa.P Go.Proofs.YtplljicodflagaaW.PrintWords Go.Proofs.YtplljicodflagaaW.PrintMore
section
variable {nm : ByteArray} {ps : List Pla} {ts : List Tra}
def pureP (ts : List Tra) : Prop := ∀ t, t < ts.length → ¬ ∃ x ∈ (ts.getD t zT).f1.map (·.f0), x ∈ (ts.getD t zT).f2.map (·.f0)
open Classical in
noncomputable def pureS (v : Bool) (ts : List Tra) : Bool := decide (v = true ∧ pureP ts)
theorem pure_ev (hp : ps.length ≤ 1000000) (ht : ts.length ≤ 1000000) (hT : Thin ts) : Ev (fun k => netclass_Pure.f k nm ps ts) (pureS (validS nm ps ts) ts) := by
  unfold netclass_Pure.f
  refine Ev.bind (nvalid_ev nm hT) ?_
  cases hv : validS nm ps ts with
  | false => rw [show pureS false ts = false from dec_f fun h => by cases h.1]; exact Ev.some _
  | true =>
    simp only [↓reduceIte]
    have io : ∀ i, i < ts.length → inputsS true ts (i : Int) = (ts.getD i zT).f1.map (·.f0) ∧ outputsS true ts (i : Int) = (ts.getD i zT).f2.map (·.f0) := fun i hi => by
      unfold inputsS outputsS
      rw [if_pos rfl, if_neg (by omega), if_pos rfl, if_neg (by omega)]
      exact ⟨rfl, rfl⟩
    have st : ∀ i, i < ts.length → ∀ r, Ev (fun k => if decide (∃ x ∈ (ts.getD i zT).f1.map (·.f0), x ∈ (ts.getD i zT).f2.map (·.f0)) = true then some false else netclass_Pure.l0 k (ts.length : Int) ((i + 1 : Nat) : Int) nm ps ts) r → Ev (fun k => netclass_Pure.l0 k (ts.length : Int) (i : Int) nm ps ts) r := fun i hi r hr => by
      refine Ev.step (fun k => by simp only [netclass_Pure.l0]; rw [if_pos (by omega), wrap_up hi (by omega)]) ?_
      refine Ev.bind (inputs_ev nm (i : Int) ht hT) ?_
      refine Ev.bind (outputs_ev nm (i : Int) ht hT) ?_
      rw [hv, (io i hi).1, (io i hi).2]
      exact Ev.bind (meet_ev _ _ (by rw [List.length_map]; exact (hT.at hi).2.1) (by rw [List.length_map]; exact (hT.at hi).2.2.1)) hr
    refine Ev_ex (L := fun k i => netclass_Pure.l0 k (ts.length : Int) (i : Int) nm ps ts) (n := ts.length) (fun t => ∃ x ∈ (ts.getD t zT).f1.map (·.f0), x ∈ (ts.getD t zT).f2.map (·.f0)) (a := false) (e := true) (fun i hi hc => ?_) (fun i hi hc r hr => ?_) (fun _ => Ev.one fun k => by simp only [netclass_Pure.l0]; rw [if_neg (by omega)]) (fun ⟨j, hj, hn⟩ => dec_f fun h => h.2 j hj hn) (fun h => dec_t ⟨rfl, h⟩)
    · exact st i hi _ (Ev.congr (fun k => if_pos (dec_t hc)) (Ev.some _))
    · exact st i hi _ (Ev.congr (fun k => if_neg (by rw [dec_f hc]; exact Bool.false_ne_true)) hr)
theorem refpure_ev (hp : ps.length ≤ 1000000) (ht : ts.length ≤ 1000000) (hT : Thin ts) : Ev (fun k => r13_Pure.f k nm ps ts) (pureS (validS nm ps ts) ts) := by
  unfold r13_Pure.f
  refine Ev.bind (refvalid_ev nm hT) ?_
  cases hv : validS nm ps ts with
  | false => rw [show pureS false ts = false from dec_f fun h => by cases h.1]; exact Ev.some _
  | true =>
    simp only [↓reduceIte]
    have V := validS_iff.1 hv
    have pp : ∀ t, t < ts.length → ∀ p : Nat, preS true ts (t : Int) (p : Int) = weightS (ts.getD t zT).f1 (p : Int) ∧ postS true ts (t : Int) (p : Int) = weightS (ts.getD t zT).f2 (p : Int) := fun t ht p => by
      unfold preS postS
      rw [if_pos rfl, if_neg (by omega), if_pos rfl, if_neg (by omega)]
      exact ⟨rfl, rfl⟩
    let B := fun (t p : Nat) => weightS (ts.getD t zT).f1 (p : Int) > 0 ∧ weightS (ts.getD t zT).f2 (p : Int) > 0
    have st : ∀ t p, t < ts.length → p < ps.length → ∀ r, (B t p → r = false) → (¬ B t p → Ev (fun k => r13_Pure.l1 k (t : Int) ((p + 1 : Nat) : Int) nm ps ts) r) → Ev (fun k => r13_Pure.l1 k (t : Int) (p : Int) nm ps ts) r := fun t p ht' hp' r h1 h2 => by
      refine Ev.step (fun k => by simp only [r13_Pure.l1]; rw [if_pos (by omega), wrap_up hp' (by omega)]) ?_
      refine Ev.bind (refpre_ev nm _ _ hT) ?_
      rw [hv, (pp t ht' p).1]
      by_cases c1 : weightS (ts.getD t zT).f1 (p : Int) > 0
      · refine Ev.congr (fun k => if_pos c1) ?_
        refine Ev.bind (refpost_ev nm _ _ hT) ?_
        rw [hv, (pp t ht' p).2]
        by_cases c2 : weightS (ts.getD t zT).f2 (p : Int) > 0
        · rw [h1 ⟨c1, c2⟩]
          exact Ev.congr (fun k => if_pos c2) (Ev.some _)
        · exact Ev.congr (fun k => if_neg c2) (h2 fun h => c2 h.2)
      · exact Ev.congr (fun k => if_neg c1) (h2 fun h => c1 h.1)
    have eqv : ∀ t, t < ts.length → ((∃ p, p < ps.length ∧ B t p) ↔ ∃ x ∈ (ts.getD t zT).f1.map (·.f0), x ∈ (ts.getD t zT).f2.map (·.f0)) := fun t ht' => by
      obtain ⟨_, a1, a2, _⟩ := V.arcs ht'
      constructor
      · rintro ⟨p, _, h1, h2⟩
        exact ⟨_, (weight_pos a1 _).1 h1, (weight_pos a2 _).1 h2⟩
      · rintro ⟨x, h1, h2⟩
        obtain ⟨a, ha, e⟩ := List.mem_map.1 h1
        obtain ⟨i, hi, rfl⟩ := List.getElem_of_mem ha
        have hb := arcsE_zero a1 i hi
        rw [List.getD_eq_getElem?_getD, List.getElem?_eq_getElem hi] at hb
        have hb0 : 0 ≤ x ∧ x < (ps.length : Int) := by rw [← e]; exact ⟨hb.1, hb.2.1⟩
        obtain ⟨p, rfl⟩ : ∃ p : Nat, x = (p : Int) := ⟨x.toNat, by omega⟩
        exact ⟨p, by omega, (weight_pos a1 _).2 h1, (weight_pos a2 _).2 h2⟩
    refine Ev_ex (L := fun k t => r13_Pure.l0 k (t : Int) nm ps ts) (n := ts.length) (fun t => ∃ p, p < ps.length ∧ B t p) (a := false) (e := true) (fun t ht' hc => ?_) (fun t ht' hc r hr => ?_) (fun _ => Ev.one fun k => by simp only [r13_Pure.l0]; rw [if_neg (by omega)]) (fun ⟨j, hj, hn⟩ => dec_f fun h => h.2 j hj ((eqv j hj).1 hn)) (fun h => dec_t ⟨rfl, fun t ht' hn => h t ht' ((eqv t ht').2 hn)⟩)
    · refine Ev.step (f := fun k => r13_Pure.l1 k (t : Int) 0 nm ps ts) (fun k => by simp only [r13_Pure.l0]; rw [if_pos (by omega)]) ?_
      exact Ev_ex (L := fun k p => r13_Pure.l1 k (t : Int) (p : Int) nm ps ts) (n := ps.length) (fun p => B t p) (a := false) (e := false) (fun p hp' h => st t p ht' hp' _ (fun _ => rfl) (fun hn => absurd h hn)) (fun p hp' h r hr => st t p ht' hp' _ (fun hn => absurd hn h) (fun _ => hr)) (fun h => absurd hc fun ⟨q, hq, hn⟩ => h q hq hn) (fun _ => rfl) (fun _ => rfl)
    · refine Ev.step (f := fun k => r13_Pure.l1 k (t : Int) 0 nm ps ts) (fun k => by simp only [r13_Pure.l0]; rw [if_pos (by omega)]) ?_
      exact Ev_up (L := fun k p => r13_Pure.l1 k (t : Int) (p : Int) nm ps ts) (n := ps.length) (fun p hp' h => st t p ht' hp' _ (fun hn => absurd ⟨p, hp', hn⟩ hc) (fun _ => h)) (Ev.step (fun k => by simp only [r13_Pure.l1]; rw [if_neg (by omega), wrap_up ht' (by omega)]) hr)
end
end Go.Proofs.Ytplljicodflagaa.Pl
/- Plain graph theory over lists of successors: walks by length, walks through the first m vertices, shortest distances. -/
namespace Go.Proofs.Ytplljicodflagaa.Pl
open Go.RowKit Go.Proofs.YtplljicodflagaaW.PrintWords Go.Proofs.YtplljicodflagaaW.PrintMore

/-- An edge between vertices. -/
def Ed (g : List (List Int)) (u v : Nat) : Prop := u < g.length ∧ v < g.length ∧ (v : Int) ∈ g.getD u []
/-- A walk of length k. -/
def Wk (g : List (List Int)) : Nat → Nat → Nat → Prop
  | 0, u, v => u = v ∧ u < g.length
  | k + 1, u, v => ∃ w, Ed g u w ∧ Wk g k w v
def R (g : List (List Int)) (u v : Nat) : Prop := ∃ k, Wk g k u v
def Rp (g : List (List Int)) (u v : Nat) : Prop := ∃ k, Wk g (k + 1) u v

section
variable {g : List (List Int)}
theorem Wk.lt : ∀ {k u v}, Wk g k u v → u < g.length ∧ v < g.length
  | 0, u, v, h => by obtain ⟨rfl, h⟩ := h; exact ⟨h, h⟩
  | k + 1, u, v, h => by obtain ⟨w, h1, h2⟩ := h; exact ⟨h1.1, (Wk.lt h2).2⟩
theorem Wk.add : ∀ {a b u v w}, Wk g a u v → Wk g b v w → Wk g (a + b) u w
  | 0, b, u, v, w, h, k => by obtain ⟨rfl, _⟩ := h; rw [Nat.zero_add]; exact k
  | a + 1, b, u, v, w, h, k => by
    obtain ⟨x, h1, h2⟩ := h
    rw [show a + 1 + b = (a + b) + 1 by omega]
    exact ⟨x, h1, Wk.add h2 k⟩
theorem Wk.one {u v : Nat} (h : Ed g u v) : Wk g 1 u v := ⟨v, h, rfl, h.2.1⟩
theorem Wk.split : ∀ {a b u w}, Wk g (a + b) u w → ∃ v, Wk g a u v ∧ Wk g b v w
  | 0, b, u, w, h => by rw [Nat.zero_add] at h; exact ⟨u, ⟨rfl, h.lt.1⟩, h⟩
  | a + 1, b, u, w, h => by
    rw [show a + 1 + b = (a + b) + 1 by omega] at h
    obtain ⟨x, h1, h2⟩ := h
    obtain ⟨v, h3, h4⟩ := Wk.split h2
    exact ⟨v, ⟨x, h1, h3⟩, h4⟩
theorem R.refl {u : Nat} (h : u < g.length) : R g u u := ⟨0, rfl, h⟩
theorem R.trans {u v w : Nat} (h : R g u v) (k : R g v w) : R g u w := by
  obtain ⟨a, h⟩ := h
  obtain ⟨b, k⟩ := k
  exact ⟨a + b, h.add k⟩
theorem R.edge {u v : Nat} (h : Ed g u v) : R g u v := ⟨1, Wk.one h⟩
theorem R.lt {u v : Nat} (h : R g u v) : u < g.length ∧ v < g.length := by obtain ⟨k, h⟩ := h; exact h.lt
theorem Rp.toR {u v : Nat} (h : Rp g u v) : R g u v := by obtain ⟨k, h⟩ := h; exact ⟨_, h⟩
theorem R_iff {u v : Nat} : R g u v ↔ (u = v ∧ u < g.length) ∨ Rp g u v := by
  constructor
  · rintro ⟨k, h⟩
    cases k with
    | zero => exact .inl h
    | succ k => exact .inr ⟨k, h⟩
  · rintro (⟨rfl, h⟩ | h)
    · exact R.refl h
    · exact h.toR
theorem Rp.trans {u v w : Nat} (h : Rp g u v) (k : Rp g v w) : Rp g u w := by
  obtain ⟨a, h⟩ := h
  obtain ⟨b, k⟩ := k
  refine ⟨a + 1 + b, ?_⟩
  have := h.add k
  rwa [show a + 1 + (b + 1) = a + 1 + b + 1 by omega] at this

/-- A set that holds the start and with each vertex its successors holds all that can be reached. -/
theorem R.closed {p : Nat → Prop} (hs : ∀ u v, p u → Ed g u v → p v) {u v : Nat} (h : R g u v) (hu : p u) : p v := by
  obtain ⟨k, h⟩ := h
  induction k generalizing u with
  | zero => obtain ⟨rfl, _⟩ := h; exact hu
  | succ k ih => obtain ⟨w, h1, h2⟩ := h; exact ih (hs u w hu h1) h2

/-! ### through the first m vertices -/
inductive Via (g : List (List Int)) (m : Nat) : Nat → Nat → Prop
  | edge {u v : Nat} : Ed g u v → Via g m u v
  | join {u w v : Nat} : w < m → Via g m u w → Via g m w v → Via g m u v
theorem Via.up {m u v : Nat} (h : Via g m u v) : Via g (m + 1) u v := by
  induction h with
  | edge h => exact .edge h
  | join hw _ _ h1 h2 => exact .join (by omega) h1 h2
theorem Via.succ {m u v : Nat} : Via g (m + 1) u v ↔ Via g m u v ∨ (Via g m u m ∧ Via g m m v) := by
  constructor
  · intro h
    induction h with
    | edge h => exact .inl (.edge h)
    | @join u w v hw _ _ h1 h2 =>
      by_cases e : w = m
      · subst e
        have a1 : Via g w u w := h1.elim id (fun h => h.1)
        have a2 : Via g w w v := h2.elim id (fun h => h.2)
        exact .inr ⟨a1, a2⟩
      · have hw' : w < m := by omega
        rcases h1 with h1 | h1 <;> rcases h2 with h2 | h2
        · exact .inl (.join hw' h1 h2)
        · exact .inr ⟨.join hw' h1 h2.1, h2.2⟩
        · exact .inr ⟨h1.1, .join hw' h1.2 h2⟩
        · exact .inr ⟨h1.1, h2.2⟩
  · rintro (h | ⟨h1, h2⟩)
    · exact h.up
    · exact .join (Nat.lt_succ_self _) h1.up h2.up
theorem Via.zero {u v : Nat} : Via g 0 u v ↔ Ed g u v := by
  constructor
  · intro h
    cases h with
    | edge h => exact h
    | join hw _ _ => omega
  · exact .edge
theorem Via.all {u v : Nat} : Via g g.length u v ↔ Rp g u v := by
  constructor
  · intro h
    induction h with
    | edge h => exact ⟨0, Wk.one h⟩
    | join _ _ _ h1 h2 => exact h1.trans h2
  · rintro ⟨k, h⟩
    induction k generalizing u with
    | zero => obtain ⟨w, h1, rfl, _⟩ := h; exact .edge h1
    | succ k ih => obtain ⟨w, h1, h2⟩ := h; exact .join h1.2.1 (.edge h1) (ih h2)

/-! ### a list without repetitions below n has at most n elements -/
theorem nodup_le : ∀ (n : Nat) (l : List Nat), l.Nodup → (∀ x ∈ l, x < n) → l.length ≤ n
  | 0, l, _, h => by
    cases l with
    | nil => simp
    | cons a l => exact absurd (h a (by simp)) (by omega)
  | n + 1, l, hd, h => by
    by_cases hn : n ∈ l
    · have h1 := nodup_le n (l.erase n) (hd.erase n) (fun x hx => by
        have h2 := h x (List.mem_of_mem_erase hx)
        have h3 : x ≠ n := fun e => by subst e; exact (List.Nodup.not_mem_erase hd) hx
        omega)
      rw [List.length_erase_of_mem hn] at h1
      omega
    · have := nodup_le n l hd (fun x hx => by
        have h2 := h x hx
        have h3 : x ≠ n := fun e => hn (e ▸ hx)
        omega)
      omega

/-! ### shortest distances to a vertex -/
def Near (g : List (List Int)) (k u t : Nat) : Prop := Wk g k u t ∧ ∀ j, j < k → ¬ Wk g j u t
theorem Near.uniq {a b u t : Nat} (h : Near g a u t) (k : Near g b u t) : a = b := by
  rcases Nat.lt_trichotomy a b with h1 | h1 | h1
  · exact absurd h.1 (k.2 a h1)
  · exact h1
  · exact absurd k.1 (h.2 b h1)
theorem Near.next {k u t : Nat} (h : Near g (k + 1) u t) : ∃ w, Ed g u w ∧ Near g k w t := by
  obtain ⟨⟨w, h1, h2⟩, h3⟩ := h
  exact ⟨w, h1, h2, fun j hj hw => h3 (j + 1) (by omega) ⟨w, h1, hw⟩⟩
/-- On the way there is a vertex at each smaller distance. -/
theorem Near.down {t : Nat} : ∀ {k u : Nat}, Near g k u t → ∃ l : List Nat, l.Nodup ∧ l.length = k + 1 ∧ ∀ x ∈ l, ∃ j, j ≤ k ∧ Near g j x t
  | 0, u, h => ⟨[u], by simp, rfl, fun x hx => by simp at hx; subst hx; exact ⟨0, Nat.le_refl _, h⟩⟩
  | k + 1, u, h => by
    obtain ⟨w, _, hw⟩ := h.next
    obtain ⟨l, h1, h2, h3⟩ := Near.down hw
    refine ⟨u :: l, List.nodup_cons.2 ⟨fun hu => ?_, h1⟩, by simp [h2], fun x hx => ?_⟩
    · obtain ⟨j, hj, hn⟩ := h3 u hu
      have := hn.uniq h
      omega
    · rcases List.mem_cons.1 hx with rfl | hx
      · exact ⟨k + 1, Nat.le_refl _, h⟩
      · obtain ⟨j, hj, hn⟩ := h3 x hx
        exact ⟨j, by omega, hn⟩
theorem Near.lt {k u t : Nat} (h : Near g k u t) : k < g.length := by
  obtain ⟨l, h1, h2, h3⟩ := h.down
  have := nodup_le g.length l h1 (fun x hx => by obtain ⟨j, _, hn⟩ := h3 x hx; exact hn.1.lt.1)
  omega
end
end Go.Proofs.Ytplljicodflagaa.Pl
/- Reading a list of lists; appending to a list. -/
namespace Go.Proofs.Ytplljicodflagaa.Pl
open Go.RowKit Go.Proofs.Ytplljicodflagaa.P Go.Proofs.YtplljicodflagaaW.PrintWords Go.Proofs.YtplljicodflagaaW.PrintMore
theorem rdL (xs : List (List Int)) (i : Nat) : rd_L11 xs (i : Int) = xs.getD i [] := by simp [rd_L11]
theorem getD_app {α : Type} (xs : List α) (x d : α) (j : Nat) : (xs ++ [x]).getD j d = if j = xs.length then x else xs.getD j d := by
  have := rdOf_app d xs x (j : Int) (by omega)
  rw [rdOf_nat, rdOf_nat] at this
  rw [this]
  by_cases e : j = xs.length
  · rw [if_pos e, if_pos (by omega)]
  · rw [if_neg e, if_neg (by omega)]
end Go.Proofs.Ytplljicodflagaa.Pl
/- What small functions of the graphs' law answer. -/
namespace Go.Proofs.Ytplljicodflagaa.Pl
open Go.RowKit Go.Proofs.Ytplljicodflagaa.P Go.Proofs.YtplljicodflagaaW.PrintWords Go.Proofs.YtplljicodflagaaW.PrintMore

theorem rdB (xs : List (List Bool)) (i : Nat) : rd_L13 xs (i : Int) = xs.getD i [] := by simp [rd_L13]

/-! ### few -/
def Few (g : List (List Int)) : Prop := g.length ≤ 320 ∧ ∀ u, u < g.length → (g.getD u []).length ≤ 1000
end Go.Proofs.Ytplljicodflagaa.Pl
/- Reversal: the lists of predecessors, ascending, without repetitions. -/
namespace Go.Proofs.Ytplljicodflagaa.Pl
open Go.RowKit Go.Proofs.Ytplljicodflagaa.P Go.Proofs.YtplljicodflagaaW.PrintWords Go.Proofs.YtplljicodflagaaW.PrintMore

/-- The predecessors of v below u. -/
def preds (g : List (List Int)) (v u : Nat) : List Int := ((List.range u).filter (fun x => decide ((v : Int) ∈ g.getD x []))).map (fun x : Nat => (x : Int))
theorem preds_succ (g : List (List Int)) (v u : Nat) : preds g v (u + 1) = preds g v u ++ (if (v : Int) ∈ g.getD u [] then [(u : Int)] else []) := by
  unfold preds
  rw [List.range_succ, List.filter_append, List.map_append]
  congr 1
  by_cases h : (v : Int) ∈ g.getD u []
  · rw [if_pos h, List.filter_cons_of_pos (by simpa using h)]; rfl
  · rw [if_neg h, List.filter_cons_of_neg (by simpa using h)]; rfl
theorem preds_mem {g : List (List Int)} {v u : Nat} {x : Int} : x ∈ preds g v u ↔ ∃ y : Nat, y < u ∧ x = (y : Int) ∧ (v : Int) ∈ g.getD y [] := by
  unfold preds
  simp only [List.mem_map, List.mem_filter, List.mem_range, decide_eq_true_eq]
  constructor
  · rintro ⟨y, ⟨h1, h2⟩, rfl⟩; exact ⟨y, h1, rfl, h2⟩
  · rintro ⟨y, h1, rfl, h2⟩; exact ⟨y, ⟨h1, h2⟩, rfl⟩
theorem preds_len (g : List (List Int)) (v u : Nat) : (preds g v u).length ≤ u := by
  unfold preds
  rw [List.length_map]
  exact Nat.le_trans (List.length_filter_le _ _) (by simp)
/-- The lists of predecessors. -/
def rev (g : List (List Int)) : List (List Int) := (List.range g.length).map (fun v => preds g v g.length)
theorem rev_len (g : List (List Int)) : (rev g).length = g.length := by simp [rev]
theorem rev_row (g : List (List Int)) (v : Nat) (hv : v < g.length) : (rev g).getD v [] = preds g v g.length := by
  unfold rev
  rw [List.getD_eq_getElem?_getD, List.getElem?_map, List.getElem?_range hv]; rfl

/-- Rows while vertex u's list is gone through, up to place i. -/
def RevAt (g : List (List Int)) (u i : Nat) (x : List (List Int)) : Prop := x.length = g.length ∧ ∀ v, v < g.length → x.getD v [] = preds g v u ++ (if (v : Int) ∈ (g.getD u []).take i then [(u : Int)] else [])
theorem last_is (l : List Int) (u : Int) : rd (l ++ [u]) (((l ++ [u]).length : Int) - 1) = u := by
  rw [rd_app _ _ _ (by simp), if_pos (by simp)]
theorem last_not {l : List Int} {u : Int} (h0 : l.length ≠ 0) (h : ∀ x ∈ l, x ≠ u) : rd l ((l.length : Int) - 1) ≠ u := h _ (rd_mem (by omega) (by omega))
theorem take_succ_mem {l : List Int} {i : Nat} (hi : i < l.length) {x : Int} : x ∈ l.take (i + 1) ↔ x ∈ l.take i ∨ x = rd l (i : Int) := by
  rw [List.take_succ_eq_append_getElem hi, List.mem_append, rd_nat, List.getD_eq_getElem?_getD, List.getElem?_eq_getElem hi]
  simp
theorem rev_step (g : List (List Int)) (hg : Few g) (u : Nat) (hu : u < g.length) (i : Nat) (hi : i < (g.getD u []).length) (x : List (List Int)) (h : RevAt g u i x) :
    ∃ x', RevAt g u (i + 1) x' ∧ ∀ r, Ev (fun k => digraph_Reverse.l1 k g x' (u : Int) g (g.length : Int) (u : Int) (g.getD u []) ((g.getD u []).length : Int) ((i + 1 : Nat) : Int)) r → Ev (fun k => digraph_Reverse.l1 k g x (u : Int) g (g.length : Int) (u : Int) (g.getD u []) ((g.getD u []).length : Int) (i : Int)) r := by
  obtain ⟨hl, hx⟩ := h
  have h20 := hg.2 u hu
  have g12 := hg.1
  obtain ⟨w, hw⟩ : ∃ w, w = rd (g.getD u []) (i : Int) := ⟨_, rfl⟩
  by_cases c1 : 0 ≤ w ∧ w < (g.length : Int)
  · obtain ⟨w0, w1⟩ := c1
    have hin : digraph_inside.f g w = some true := by unfold digraph_inside.f; rw [if_pos w0, decide_eq_true w1]
    obtain ⟨v, rfl⟩ : ∃ v : Nat, w = (v : Int) := ⟨w.toNat, by omega⟩
    have hv : v < g.length := by omega
    by_cases c2 : (v : Int) ∈ (g.getD u []).take i
    · have hrow := hx v hv
      rw [if_pos c2] at hrow
      refine ⟨x, ⟨hl, fun y hy => ?_⟩, fun r h => Ev.step (fun k => ?_) h⟩
      · rw [hx y hy]
        congr 1
        have e : ((y : Int) ∈ (g.getD u []).take (i + 1)) ↔ ((y : Int) ∈ (g.getD u []).take i) := by
          rw [take_succ_mem hi, ← hw]
          exact ⟨fun h => h.elim id (fun h => by rw [h]; exact c2), .inl⟩
        simp only [e]
      · simp only [digraph_Reverse.l1]
        rw [if_pos (by omega), if_pos (by omega), if_pos (by omega), ← hw, hin]
        simp only [Option.bind_some]
        rw [if_pos trivial, if_pos w0, if_pos (by omega), rdL, hrow, if_neg (by simp; omega), wrap_ok (by rw [List.length_append]; omega) (by have := preds_len g v u; simp; omega), if_pos (by simp), if_pos (by omega), if_pos (last_is _ _), wrap_up hi (by omega)]
    · have hrow := hx v hv
      rw [if_neg c2, List.append_nil] at hrow
      refine ⟨x.set v (preds g v u ++ [(u : Int)]), ⟨by rw [List.length_set]; exact hl, fun y hy => ?_⟩, fun r h => Ev.step (fun k => ?_) h⟩
      · rw [getD_set _ _ _ _ _ (by omega)]
        by_cases e : y = v
        · subst e
          rw [if_pos rfl, if_pos ((take_succ_mem hi).2 (.inr hw))]
        · rw [if_neg e, hx y hy]
          congr 1
          have e : ((y : Int) ∈ (g.getD u []).take (i + 1)) ↔ ((y : Int) ∈ (g.getD u []).take i) := by
            rw [take_succ_mem hi, ← hw]
            exact ⟨fun h => h.elim id (fun h => by omega), .inl⟩
          simp only [e]
      · simp only [digraph_Reverse.l1]
        have hp := preds_len g v u
        rw [if_pos (by omega), if_pos (by omega), if_pos (by omega), ← hw, hin]
        simp only [Option.bind_some]
        rw [if_pos trivial, if_pos w0, if_pos (by omega), rdL, hrow]
        by_cases c3 : ((preds g v u).length : Int) = 0
        · rw [if_pos c3, if_pos (by omega), wrap_up hi (by omega), Int.toNat_natCast]
        · rw [if_neg c3, wrap_ok (by omega) (by omega), if_pos (by omega), if_pos (by omega), if_neg (last_not (by omega) (fun z hz => by
            obtain ⟨y, hy, rfl, _⟩ := preds_mem.1 hz
            omega)), if_pos (by omega), wrap_up hi (by omega), Int.toNat_natCast]
  · have hin : digraph_inside.f g w = some false := by
      unfold digraph_inside.f
      by_cases h0 : w ≥ 0
      · rw [if_pos h0, decide_eq_false (fun h1 => c1 ⟨h0, h1⟩)]
      · rw [if_neg h0]
    refine ⟨x, ⟨hl, fun y hy => ?_⟩, fun r h => Ev.step (fun k => ?_) h⟩
    · rw [hx y hy]
      congr 1
      have e : ((y : Int) ∈ (g.getD u []).take (i + 1)) ↔ ((y : Int) ∈ (g.getD u []).take i) := by
        rw [take_succ_mem hi, ← hw]
        exact ⟨fun h => h.elim id (fun h => absurd (by omega) c1), .inl⟩
      simp only [e]
    · simp only [digraph_Reverse.l1]
      rw [if_pos (by omega), if_pos (by omega), if_pos (by omega), ← hw, hin]
      simp only [Option.bind_some]
      rw [if_neg (by decide), wrap_up hi (by omega)]
theorem reverse_ev (g : List (List Int)) (hg : Few g) : Ev (fun k => digraph_Reverse.f k g) (rev g) := by
  have g12 := hg.1
  obtain ⟨x, ⟨hl, hx⟩, hk⟩ := Ev_for (l := fun k (x : List (List Int)) i => digraph_Reverse.l0 k g x g (g.length : Int) i) (n := g.length) (inv := fun u x => x.length = g.length ∧ ∀ v, v < g.length → x.getD v [] = preds g v u)
    (fun u x hu ⟨hl, hx⟩ => by
      obtain ⟨x', ⟨hl', hx'⟩, hk'⟩ := Ev_for (l := fun k (x : List (List Int)) i => digraph_Reverse.l1 k g x (u : Int) g (g.length : Int) (u : Int) (g.getD u []) ((g.getD u []).length : Int) i) (n := (g.getD u []).length) (inv := fun i x => RevAt g u i x) (fun i x hi h => rev_step g hg u hu i hi x h) (Nat.zero_le _) (s := x) ⟨hl, fun v hv => by rw [hx v hv]; simp⟩
      refine ⟨x', ⟨hl', fun v hv => ?_⟩, fun r h => Ev.step (f := fun k => digraph_Reverse.l1 k g x (u : Int) g (g.length : Int) (u : Int) (g.getD u []) ((g.getD u []).length : Int) 0) (fun k => ?_) (hk' r (Ev.step (fun k => ?_) h))⟩
      · rw [hx' v hv, preds_succ, List.take_length]
      · simp only [digraph_Reverse.l0]
        rw [if_pos (by omega), if_pos (by omega), if_pos (by omega), rdL]
      · simp only [digraph_Reverse.l1]
        rw [if_neg (by omega), wrap_up hu (by omega)])
    (Nat.zero_le _) (s := List.replicate g.length []) ⟨by simp, fun v hv => by rw [List.getD_eq_getElem?_getD, List.getElem?_replicate, if_pos hv]; rfl⟩
  have e : x = rev g := by
    refine List.ext_getElem (by rw [hl, rev_len]) (fun i h1 h2 => ?_)
    have h3 := hx i (by omega)
    rw [← rev_row g i (by omega), List.getD_eq_getElem?_getD, List.getD_eq_getElem?_getD, List.getElem?_eq_getElem h1, List.getElem?_eq_getElem h2] at h3
    exact h3
  rw [← e]
  refine Ev.congr (f := fun k => digraph_Reverse.l0 k g (List.replicate g.length []) g (g.length : Int) 0) (fun k => ?_) (hk x (Ev.one (fun k => by simp only [digraph_Reverse.l0]; rw [if_neg (by omega)])))
  unfold digraph_Reverse.f
  rw [if_pos (by omega), if_pos (by omega), Int.toNat_natCast]

end Go.Proofs.Ytplljicodflagaa.Pl
/- The reference's table of edges. -/
namespace Go.Proofs.Ytplljicodflagaa.Pl
open Go.RowKit Go.Proofs.Ytplljicodflagaa.P Go.Proofs.YtplljicodflagaaW.PrintWords Go.Proofs.YtplljicodflagaaW.PrintMore
/-! ### the table of edges -/
/-- A table of n rows of n, that holds where p does. -/
def IsTab (t : List (List Bool)) (n : Nat) (p : Nat → Nat → Prop) : Prop := t.length = n ∧ ∀ u, u < n → (t.getD u []).length = n ∧ ∀ v, v < n → ((t.getD u []).getD v false = true ↔ p u v)
theorem table_row (g : List (List Int)) (hg : Few g) (x3 : List (List Bool)) (u : Nat) (hu : u < g.length) (hx : x3.length = u) :
    ∃ row : List Bool, (row.length = g.length ∧ ∀ v, v < g.length → (row.getD v false = true ↔ Ed g u v)) ∧ ∀ r, Ev (fun k => r07_Table.l0 k g (x3 ++ [row]) ((u + 1 : Nat) : Int)) r → Ev (fun k => r07_Table.l0 k g x3 (u : Int)) r := by
  have h20 := hg.2 u hu
  obtain ⟨row, ⟨hl, hrow⟩, hk⟩ := Ev_for (l := fun k (row : List Bool) i => r07_Table.l1 k g x3 (u : Int) row i) (n := (g.getD u []).length)
    (inv := fun i row => row.length = g.length ∧ ∀ v, v < g.length → (row.getD v false = true ↔ ∃ j, j < i ∧ rd (g.getD u []) (j : Int) = (v : Int)))
    (fun i row hi ⟨hl, hrow⟩ => by
      by_cases h : 0 ≤ rd (g.getD u []) (i : Int) ∧ rd (g.getD u []) (i : Int) < (g.length : Int)
      · obtain ⟨h0, h1⟩ := h
        refine ⟨row.set (rd (g.getD u []) (i : Int)).toNat true, ⟨by rw [List.length_set]; exact hl, fun v hv => ?_⟩, fun r h => Ev.step (fun k => ?_) h⟩
        · rw [getD_set _ _ _ _ _ (by omega)]
          by_cases e : v = (rd (g.getD u []) (i : Int)).toNat
          · rw [if_pos e]
            exact ⟨fun _ => ⟨i, by omega, by omega⟩, fun _ => rfl⟩
          · rw [if_neg e, hrow v hv]
            exact ⟨fun ⟨j, hj, he⟩ => ⟨j, by omega, he⟩, fun ⟨j, hj, he⟩ => ⟨j, by
              by_cases hji : j = i
              · subst hji; omega
              · omega, he⟩⟩
        · simp only [r07_Table.l1]
          rw [if_pos (by omega), if_pos (by omega), rdL, if_pos (by omega), if_pos (by omega), if_pos h0, if_pos h1, if_pos h0, if_pos (by omega), wrap_up hi (by omega)]
      · refine ⟨row, ⟨hl, fun v hv => ?_⟩, fun r h2 => Ev.step (fun k => ?_) h2⟩
        · rw [hrow v hv]
          exact ⟨fun ⟨j, hj, he⟩ => ⟨j, by omega, he⟩, fun ⟨j, hj, he⟩ => ⟨j, by
            by_cases hji : j = i
            · subst hji; omega
            · omega, he⟩⟩
        · simp only [r07_Table.l1]
          rw [if_pos (by omega), if_pos (by omega), rdL, if_pos (by omega), if_pos (by omega)]
          by_cases h0 : 0 ≤ rd (g.getD u []) (i : Int)
          · rw [if_pos h0, if_neg (fun h1 => h ⟨h0, h1⟩), wrap_up hi (by omega)]
          · rw [if_neg h0, wrap_up hi (by omega)])
    (Nat.zero_le _) (s := List.replicate g.length false) ⟨by simp, fun v hv => ⟨fun h => by rw [List.getD_eq_getElem?_getD, List.getElem?_replicate, if_pos hv] at h; simp at h, fun ⟨j, hj, _⟩ => absurd hj (Nat.not_lt_zero _)⟩⟩
  have g12 := hg.1
  refine ⟨row, ⟨hl, fun v hv => ?_⟩, fun r h => ?_⟩
  · rw [hrow v hv]
    constructor
    · rintro ⟨j, hj, he⟩
      exact ⟨hu, hv, by rw [← he]; exact rd_mem (by omega) (by omega)⟩
    · rintro ⟨_, _, hm⟩
      exact mem_rd hm
  · refine Ev.step (f := fun k => r07_Table.l1 k g x3 (u : Int) (List.replicate g.length false) 0) (fun k => ?_) (hk r (Ev.step (fun k => ?_) h))
    · simp only [r07_Table.l0]
      rw [if_pos (by omega), if_pos (by omega), Int.toNat_natCast, if_pos (by omega)]
    · simp only [r07_Table.l1]
      rw [if_pos (by omega), if_pos (by omega), rdL, if_neg (by omega), if_pos (by omega), wrap_up hu (by omega)]
theorem table_ev (g : List (List Int)) (hg : Few g) : ∃ t, Ev (fun k => r07_Table.f k g) t ∧ IsTab t g.length (Ed g) := by
  obtain ⟨t, ⟨hl, ht⟩, hk⟩ := Ev_for (l := fun k (t : List (List Bool)) i => r07_Table.l0 k g t i) (n := g.length)
    (inv := fun i t => t.length = i ∧ ∀ u, u < i → (t.getD u []).length = g.length ∧ ∀ v, v < g.length → ((t.getD u []).getD v false = true ↔ Ed g u v))
    (fun i t hi ⟨hl, ht⟩ => by
      obtain ⟨row, h1, h2⟩ := table_row g hg t i hi hl
      refine ⟨t ++ [row], ⟨by simp [hl], fun u hu => ?_⟩, h2⟩
      rw [getD_app]
      by_cases e : u = t.length
      · rw [if_pos e]
        rw [hl] at e
        subst e
        exact h1
      · rw [if_neg e]
        exact ht u (by omega))
    (Nat.zero_le _) (s := []) ⟨rfl, fun u hu => absurd hu (Nat.not_lt_zero _)⟩
  exact ⟨t, hk t (Ev.one (fun k => by simp only [r07_Table.l0]; rw [if_neg (by omega)])), hl, ht⟩
end Go.Proofs.Ytplljicodflagaa.Pl
/- Reversal, the reference's. -/
namespace Go.Proofs.Ytplljicodflagaa.Pl
open Go.RowKit Go.Proofs.Ytplljicodflagaa.P Go.Proofs.YtplljicodflagaaW.PrintWords Go.Proofs.YtplljicodflagaaW.PrintMore
/-! ### the reference's -/
theorem refrev_row (g : List (List Int)) (hg : Few g) {t : List (List Bool)} (ht : IsTab t g.length (Ed g)) (v : Nat) (hv : v < g.length) (x : List (List Int)) (hx : x.length = v) :
    ∀ r, Ev (fun k => r07_Reverse.l0 k g t (x ++ [preds g v g.length]) ((v + 1 : Nat) : Int)) r → Ev (fun k => r07_Reverse.l0 k g t x (v : Int)) r := by
  have g12 := hg.1
  obtain ⟨l, hl, hk⟩ := Ev_for (l := fun k (l : List Int) u => r07_Reverse.l1 k g t x (v : Int) l u) (n := g.length) (inv := fun u l => l = preds g v u)
    (fun u l hu hl => by
      subst hl
      obtain ⟨h1, h2⟩ := ht.2 u hu
      have hp := preds_len g v u
      by_cases c : (t.getD u []).getD v false = true
      · refine ⟨_, rfl, fun r h => Ev.step (fun k => ?_) h⟩
        simp only [r07_Reverse.l1]
        rw [if_pos (by omega), if_pos (by omega), if_pos (by have := ht.1; omega), if_pos (by omega), rdB, if_pos (by omega), rdOf_nat, if_pos c, if_pos (by omega), wrap_up hu (by omega), preds_succ, if_pos ((h2 v hv).1 c).2.2]
      · refine ⟨_, rfl, fun r h => Ev.step (fun k => ?_) h⟩
        simp only [r07_Reverse.l1]
        rw [if_pos (by omega), if_pos (by omega), if_pos (by have := ht.1; omega), if_pos (by omega), rdB, if_pos (by omega), rdOf_nat, if_neg c, wrap_up hu (by omega), preds_succ, if_neg (fun hm => c ((h2 v hv).2 ⟨hu, hv, hm⟩)), List.append_nil])
    (Nat.zero_le _) (s := []) rfl
  subst hl
  exact fun r h => Ev.step (f := fun k => r07_Reverse.l1 k g t x (v : Int) [] 0) (fun k => by simp only [r07_Reverse.l0]; rw [if_pos (by omega)]) (hk r (Ev.step (fun k => by simp only [r07_Reverse.l1]; rw [if_neg (by omega), if_pos (by omega), wrap_up hv (by omega)]) h))
theorem refrev_ev (g : List (List Int)) (hg : Few g) : Ev (fun k => r07_Reverse.f k g) (rev g) := by
  have g12 := hg.1
  obtain ⟨t, htab, ht⟩ := table_ev g hg
  obtain ⟨x, hx, hk⟩ := Ev_for (l := fun k (x : List (List Int)) v => r07_Reverse.l0 k g t x v) (n := g.length) (inv := fun v x => x = (List.range v).map (fun v => preds g v g.length))
    (fun v x hv hx => by
      subst hx
      exact ⟨_, rfl, fun r h => refrev_row g hg ht v hv _ (by simp) r (by rw [List.range_succ, List.map_append] at h; exact h)⟩) (Nat.zero_le _) (s := []) rfl
  subst hx
  exact Ev.bind htab (hk _ (Ev.one (fun k => by simp only [r07_Reverse.l0]; rw [if_neg (by omega)]; rfl)))
end Go.Proofs.Ytplljicodflagaa.Pl
/- A graph with each edge in both directions, by both texts. -/
namespace Go.Proofs.Ytplljicodflagaa.Pl
set_option linter.unusedVariables false
open Go.RowKit Go.Proofs.Ytplljicodflagaa.P Go.Proofs.YtplljicodflagaaW.PrintWords Go.Proofs.YtplljicodflagaaW.PrintMore

def bothP (g : List (List Int)) : List (List Int) := mr g.length (fun v => preds g v g.length ++ g.getD v [])
def bothR (g : List (List Int)) : List (List Int) := mr g.length (fun v => g.getD v [] ++ preds g v g.length)
section
variable {g : List (List Int)}
theorem ed_both {h : List (List Int)} (hl : h.length = g.length) (hm : ∀ u, u < g.length → ∀ x, x ∈ h.getD u [] ↔ x ∈ preds g u g.length ∨ x ∈ g.getD u []) {u v : Nat} : Ed h u v ↔ Ed g u v ∨ Ed g v u := by
  unfold Ed
  rw [hl]
  constructor
  · rintro ⟨h1, h2, h3⟩
    rcases (hm u h1 _).1 h3 with h | h
    · obtain ⟨y, hy, e, hu⟩ := preds_mem.1 h
      obtain rfl : v = y := by omega
      exact .inr ⟨h2, h1, hu⟩
    · exact .inl ⟨h1, h2, h⟩
  · rintro (⟨h1, h2, h3⟩ | ⟨h1, h2, h3⟩)
    · exact ⟨h1, h2, (hm u h1 _).2 (.inr h3)⟩
    · exact ⟨h2, h1, (hm u h2 _).2 (.inl (preds_mem.2 ⟨v, h1, rfl, h3⟩))⟩
theorem edP {u v : Nat} : Ed (bothP g) u v ↔ Ed g u v ∨ Ed g v u := ed_both (mr_len _ _) (fun u hu x => by rw [mr_get _ _ hu, List.mem_append])
theorem edR {u v : Nat} : Ed (bothR g) u v ↔ Ed g u v ∨ Ed g v u := ed_both (mr_len _ _) (fun u hu x => by rw [mr_get _ _ hu, List.mem_append]; exact Or.comm)
theorem both_few (hl : g.length ≤ 320) (hr : ∀ u, u < g.length → (g.getD u []).length ≤ 600) : Few (bothP g) ∧ Few (bothR g) := by
  refine ⟨⟨by unfold bothP; rw [mr_len]; exact hl, fun u hu => ?_⟩, ⟨by unfold bothR; rw [mr_len]; exact hl, fun u hu => ?_⟩⟩
  · unfold bothP at hu ⊢
    rw [mr_len] at hu
    rw [mr_get _ _ hu, List.length_append]
    have := preds_len g u g.length
    have := hr u hu
    omega
  · unfold bothR at hu ⊢
    rw [mr_len] at hu
    rw [mr_get _ _ hu, List.length_append]
    have := preds_len g u g.length
    have := hr u hu
    omega
theorem R_sym {h : List (List Int)} (hs : ∀ u v, Ed h u v → Ed h v u) {u v : Nat} (hr : R h u v) : R h v u :=
  R.closed (p := fun w => R h w u) (fun a b ha hab => (R.edge (hs a b hab)).trans ha) hr (R.refl hr.lt.1)
theorem R_cong {h h' : List (List Int)} (hl : h.length = h'.length) (he : ∀ u v, Ed h u v → Ed h' u v) {u v : Nat} (hr : R h u v) : R h' u v :=
  R.closed (p := fun w => R h' u w) (fun a b ha hab => ha.trans (R.edge (he a b hab))) hr (R.refl (by rw [← hl]; exact hr.lt.1))
theorem both_ev (hf : Few g) : Ev (fun k => netclass_both.f k g) (bothP g) := by
  have hl := hf.1
  unfold netclass_both.f
  refine Ev.bind (reverse_ev g hf) ?_
  have e0 : rev g = mr g.length (fun v => if v < 0 then preds g v g.length ++ g.getD v [] else preds g v g.length) := by
    unfold rev mr
    exact List.map_congr_left fun v _ => by rw [if_neg (Nat.not_lt_zero _)]
  rw [e0]
  have e1 : bothP g = mr g.length (fun v => if v < g.length then preds g v g.length ++ g.getD v [] else preds g v g.length) := mr_congr fun v hv => by rw [if_pos hv]
  rw [e1]
  refine Ev_up (L := fun k i => netclass_both.l0 k (mr g.length (fun v => if v < i then preds g v g.length ++ g.getD v [] else preds g v g.length)) g (g.length : Int) (i : Int)) (n := g.length) (fun i hi hr => Ev.step (fun k => ?_) hr) (Ev.one (fun k => by simp only [netclass_both.l0]; rw [if_neg (by omega)]))
  have := preds_len g i g.length
  have := hf.2 i hi
  simp only [netclass_both.l0]
  rw [if_pos (by omega), if_pos (by omega), if_pos (by omega), if_pos (by rw [mr_len]; omega), rdL, rdL, mr_get _ _ hi, if_neg (Nat.lt_irrefl _), if_pos (by omega), Int.toNat_natCast, mr_set, wrap_up hi (by omega)]
  congr 1
  refine mr_congr fun v hv => ?_
  by_cases e : v = i
  · subst e; rw [if_pos rfl, if_pos (by omega)]
  · rw [if_neg e]
    by_cases h : v < i
    · rw [if_pos h, if_pos (by omega)]
    · rw [if_neg h, if_neg (by omega)]
theorem take_snoc (l : List Int) {i : Nat} (hi : i < l.length) : l.take (i + 1) = l.take i ++ [rd l (i : Int)] := by
  have := take_map_succ l (fun x : Int => x) 0 hi
  simpa [rd_nat] using this
theorem refboth_ev (hf : Few g) : Ev (fun k => r13_both.f k g) (bothR g) := by
  have hl := hf.1
  unfold r13_both.f
  refine Ev.bind (refrev_ev g hf) ?_
  refine Ev_up (L := fun k v => r13_both.l0 k g (rev g) (mr v (fun v => g.getD v [] ++ preds g v g.length)) (v : Int)) (n := g.length) (fun v hv hr => ?_) (Ev.one (fun k => by simp only [r13_both.l0]; rw [if_neg (by omega)]; rfl))
  have hp := preds_len g v g.length
  have hw := hf.2 v hv
  have hrl := rev_len g
  refine Ev.step (f := fun k => r13_both.l1 k g (rev g) (mr v (fun v => g.getD v [] ++ preds g v g.length)) (v : Int) ((g.getD v []).take 0) ((0 : Nat) : Int)) (fun k => by simp only [r13_both.l0]; rw [if_pos (by omega)]; rfl) ?_
  refine Ev_up (L := fun k i => r13_both.l1 k g (rev g) (mr v (fun v => g.getD v [] ++ preds g v g.length)) (v : Int) ((g.getD v []).take i) (i : Int)) (n := (g.getD v []).length) (fun i hi hr1 => Ev.step (fun k => ?_) hr1) ?_
  · simp only [r13_both.l1]
    rw [if_pos (by omega), if_pos (by omega), rdL, if_pos (by omega), if_pos (by omega), if_pos (by rw [List.length_take]; omega), wrap_up hi (by omega), take_snoc _ hi]
  · refine Ev.step (f := fun k => r13_both.l2 k g (rev g) (mr v (fun v => g.getD v [] ++ preds g v g.length)) (v : Int) (g.getD v [] ++ (preds g v g.length).take 0) ((0 : Nat) : Int)) (fun k => by
      simp only [r13_both.l1]
      rw [if_pos (by omega), if_pos (by omega), rdL, if_neg (by omega), List.take_length, List.take_zero, List.append_nil]; rfl) ?_
    refine Ev_up (L := fun k i => r13_both.l2 k g (rev g) (mr v (fun v => g.getD v [] ++ preds g v g.length)) (v : Int) (g.getD v [] ++ (preds g v g.length).take i) (i : Int)) (n := (preds g v g.length).length) (fun i hi hr1 => Ev.step (fun k => ?_) hr1) (Ev.step (fun k => ?_) hr)
    · simp only [r13_both.l2]
      rw [if_pos (by omega), if_pos (by omega), rdL, rev_row g v hv, if_pos (by omega), if_pos (by omega), if_pos (by rw [List.length_append, List.length_take]; omega), wrap_up hi (by omega), take_snoc _ hi, List.append_assoc]
    · simp only [r13_both.l2]
      rw [if_pos (by omega), if_pos (by omega), rdL, rev_row g v hv, if_neg (by omega), if_pos (by rw [mr_len]; omega), List.take_length, wrap_up hv (by omega), mr_snoc]
end
end Go.Proofs.Ytplljicodflagaa.Pl
/- The flow graph of a net: what it is, and that the program's text answers it. -/
namespace Go.Proofs.Ytplljicodflagaa.Pl
set_option linter.unusedVariables false
open Go.RowKit Go.Proofs.Ytplljicodflagaa.P Go.Proofs.YtplljicodflagaaW.PrintWords Go.Proofs.YtplljicodflagaaW.PrintMore


/-- The row of node v when i transitions are told. -/
def fr (ts : List Tra) (K i v : Nat) : List Int :=
  if v < K then ((List.range i).filter (fun t : Nat => decide (weightS (ts.getD t zT).f1 (v : Int) > 0))).map (fun t : Nat => ((K + t : Nat) : Int)) else if v - K < i then (ts.getD (v - K) zT).f2.map (·.f0) else []
def f1 (ts : List Tra) (K i j v : Nat) : List Int := fr ts K i v ++ (if v < K ∧ (v : Int) ∈ ((ts.getD i zT).f1.take j).map (·.f0) then [((K + i : Nat) : Int)] else [])
def f2 (ts : List Tra) (K i j v : Nat) : List Int := if v = K + i then ((ts.getD i zT).f2.take j).map (·.f0) else f1 ts K i (ts.getD i zT).f1.length v
theorem fr_len (ts : List Tra) (K i v : Nat) (hv : v < K) : (fr ts K i v).length ≤ i := by
  unfold fr
  rw [if_pos hv, List.length_map]
  exact Nat.le_trans (List.length_filter_le _ _) (by rw [List.length_range]; exact Nat.le_refl _)
theorem f1_zero (ts : List Tra) (K i v : Nat) : f1 ts K i 0 v = fr ts K i v := by unfold f1; simp
theorem f1_succ {ts : List Tra} {K i j : Nat} {np : Int} (ha : arcsE np (ts.getD i zT).f1 = 0) (hj : j < (ts.getD i zT).f1.length) (p : Nat) (hp : ((ts.getD i zT).f1.getD j zA).f0 = (p : Int)) (hk : p < K) (v : Nat) :
    f1 ts K i (j + 1) v = if v = p then f1 ts K i j p ++ [((K + i : Nat) : Int)] else f1 ts K i j v := by
  have hn : ∀ m, m < j → ((ts.getD i zT).f1.getD m zA).f0 ≠ (p : Int) := fun m hm e => by
    have := arcs_lt ha hm hj
    rw [hp, e] at this
    omega
  have hno : (p : Int) ∉ ((ts.getD i zT).f1.take j).map (·.f0) := fun hm => by
    obtain ⟨a, ha, e⟩ := List.mem_map.1 hm
    obtain ⟨m, hm, rfl⟩ := List.mem_take_iff_getElem.1 ha
    refine hn m (by omega) ?_
    rw [List.getD_eq_getElem?_getD, List.getElem?_eq_getElem (by omega)]
    exact e
  unfold f1
  rw [take_map_succ _ _ zA hj, hp]
  by_cases e : v = p
  · subst e
    rw [if_pos rfl, if_pos ⟨hk, by simp⟩, if_neg (fun h => hno h.2), List.append_nil]
  · rw [if_neg e]
    congr 1
    have : (v : Int) ∈ ((ts.getD i zT).f1.take j).map (·.f0) ++ [(p : Int)] ↔ (v : Int) ∈ ((ts.getD i zT).f1.take j).map (·.f0) := by
      rw [List.mem_append, List.mem_singleton]
      exact ⟨fun h => h.elim id (fun h => absurd h (by omega)), Or.inl⟩
    simp only [this]
theorem f2_last {ts : List Tra} {K i : Nat} {np : Int} (ha : arcsE np (ts.getD i zT).f1 = 0) (v : Nat) : f2 ts K i (ts.getD i zT).f2.length v = fr ts K (i + 1) v := by
  unfold f2 f1
  rw [List.take_length, List.take_length]
  by_cases e : v = K + i
  · subst e
    rw [if_pos rfl]
    unfold fr
    rw [if_neg (by omega), if_pos (by omega), show K + i - K = i by omega]
  · rw [if_neg e]
    unfold fr
    by_cases h : v < K
    · rw [if_pos h, if_pos h, filter_range_succ]
      have hw := weight_pos ha (v : Int)
      by_cases c : weightS (ts.getD i zT).f1 (v : Int) > 0
      · rw [if_pos ⟨h, hw.1 c⟩, if_pos (decide_eq_true c), List.map_append]; rfl
      · rw [if_neg (fun x => c (hw.2 x.2)), if_neg (by simpa using c), List.append_nil]
    · simp only [h, false_and, if_false, List.append_nil]
      by_cases h2 : v - K < i
      · rw [if_pos h2, if_pos (by omega)]
      · rw [if_neg h2, if_neg (by omega)]
def flowS (v : Bool) (ps : List Pla) (ts : List Tra) : List (List Int) := if v = true then mr (ps.length + ts.length) (fr ts ps.length ts.length) else []
theorem flow_ev (nm : ByteArray) {ps : List Pla} {ts : List Tra} (hT : Thin ts) : Ev (fun k => netclass_Flow.f k nm ps ts) (flowS (validS nm ps ts) ps ts) := by
  unfold netclass_Flow.f flowS
  refine Ev.bind (nvalid_ev nm hT) ?_
  by_cases hv : validS nm ps ts = true
  · have V := validS_iff.1 hv
    have hp := V.p
    have ht := V.t
    simp only [hv, ↓reduceIte]
    rw [wrap_ok (by omega) (by omega)]
    refine Ev.congr (f := fun k => netclass_Flow.l0 k (ps.length : Int) (mr (ps.length + ts.length) (fr ts ps.length 0)) ts (ts.length : Int) ((0 : Nat) : Int)) (fun k => by
      rw [if_pos (by omega), if_pos (by omega), show (((ps.length : Int) + (ts.length : Int)) : Int).toNat = ps.length + ts.length by omega, mr_rep, mr_congr (g := fr ts ps.length 0) (fun v _ => by unfold fr; simp)]; rfl) ?_
    refine Ev_up (L := fun k i => netclass_Flow.l0 k (ps.length : Int) (mr (ps.length + ts.length) (fr ts ps.length i)) ts (ts.length : Int) (i : Int)) (n := ts.length) (fun i hi hr => ?_) (Ev.one (fun k => by simp only [netclass_Flow.l0]; rw [if_neg (by omega)]))
    obtain ⟨_, ha1, ha2, _⟩ := V.arcs hi
    have l1 := (hT.at hi).2.1
    have l2 := (hT.at hi).2.2.1
    have hK := Aside0.mk (show wrap64 ((ps.length : Int) + (i : Int)) = ((ps.length + i : Nat) : Int) by rw [wrap_ok (by omega) (by omega)]; omega)
    refine Ev.step (f := fun k => netclass_Flow.l1 k (ps.length : Int) (mr (ps.length + ts.length) (f1 ts ps.length i 0)) (i : Int) ts (ts.length : Int) (i : Int) (ts.getD i zT).f1 ((ts.getD i zT).f1.length : Int) ((0 : Nat) : Int) (ts.getD i zT).f0 (ts.getD i zT).f1 (ts.getD i zT).f2 (ts.getD i zT).f3 (ts.getD i zT).f4) (fun k => by
      simp only [netclass_Flow.l0]
      rw [if_pos (by omega), if_pos (by omega), if_pos (by omega), rdT, mr_congr (g := f1 ts ps.length i 0) (fun v _ => (f1_zero _ _ _ _).symm)]; rfl) ?_
    refine Ev_up (L := fun k j => netclass_Flow.l1 k (ps.length : Int) (mr (ps.length + ts.length) (f1 ts ps.length i j)) (i : Int) ts (ts.length : Int) (i : Int) (ts.getD i zT).f1 ((ts.getD i zT).f1.length : Int) (j : Int) (ts.getD i zT).f0 (ts.getD i zT).f1 (ts.getD i zT).f2 (ts.getD i zT).f3 (ts.getD i zT).f4) (n := (ts.getD i zT).f1.length) (fun j hj hr1 => ?_) ?_
    · obtain ⟨a0, a1, _, _, _⟩ := arcsE_zero ha1 j hj
      obtain ⟨p, hpp⟩ : ∃ p : Nat, ((ts.getD i zT).f1.getD j zA).f0 = (p : Int) := ⟨_, (Int.toNat_of_nonneg a0).symm⟩
      have hpk : p < ps.length := by omega
      have hlen : (f1 ts ps.length i j p).length ≤ i + 1 := by
        unfold f1
        have := fr_len ts ps.length i p hpk
        rw [List.length_append]
        split <;> simp <;> omega
      refine Ev.step (fun k => ?_) hr1
      simp only [netclass_Flow.l1]
      rw [if_pos (by omega), if_pos (by omega), if_pos (by omega), rdA, hpp, if_pos (by omega), if_pos (by rw [mr_len]; omega), rdL, mr_get _ _ (by omega), if_pos (by omega), Int.toNat_natCast, hK.out, mr_set, wrap_up hj (by omega), mr_congr (f := f1 ts ps.length i (j + 1)) (fun v _ => f1_succ ha1 hj p hpp hpk v)]
    · refine Ev.step (f := fun k => netclass_Flow.l2 k (ps.length : Int) (mr (ps.length + ts.length) (f2 ts ps.length i 0)) (i : Int) ts (ts.length : Int) (i : Int) (ts.getD i zT).f2 ((ts.getD i zT).f2.length : Int) ((0 : Nat) : Int)) (fun k => by
        simp only [netclass_Flow.l1]
        rw [if_neg (by omega), mr_congr (g := f2 ts ps.length i 0) (fun v _ => by
          unfold f2 f1 fr
          by_cases e : v = ps.length + i
          · subst e; rw [if_pos rfl, if_neg (by omega), if_neg (by omega), if_neg (by omega)]; rfl
          · rw [if_neg e])]; rfl) ?_
      refine Ev_up (L := fun k j => netclass_Flow.l2 k (ps.length : Int) (mr (ps.length + ts.length) (f2 ts ps.length i j)) (i : Int) ts (ts.length : Int) (i : Int) (ts.getD i zT).f2 ((ts.getD i zT).f2.length : Int) (j : Int)) (n := (ts.getD i zT).f2.length) (fun j hj hr1 => ?_) ?_
      · refine Ev.step (fun k => ?_) hr1
        have e2 : f2 ts ps.length i j (ps.length + i) = ((ts.getD i zT).f2.take j).map (·.f0) := by unfold f2; rw [if_pos rfl]
        simp only [netclass_Flow.l2]
        rw [if_pos (by omega), if_pos (by omega), if_pos (by omega), rdA, hK.out, if_pos (by omega), if_pos (by rw [mr_len]; omega), rdL, mr_get _ _ (by omega), e2, if_pos (by rw [List.length_map, List.length_take]; omega), Int.toNat_natCast, mr_set, wrap_up hj (by omega), ← take_map_succ _ (fun a : Ac => a.f0) zA hj, mr_congr (f := f2 ts ps.length i (j + 1)) (fun v _ => show _ = if v = ps.length + i then _ else f2 ts ps.length i j v by unfold f2; split <;> rfl)]
      · refine Ev.step (fun k => ?_) hr
        simp only [netclass_Flow.l2]
        rw [if_neg (by omega), wrap_up hi (by omega), mr_congr (f := f2 ts ps.length i _) (fun v _ => f2_last ha1 v)]
  · simp only [hv]; exact Ev.some _
end Go.Proofs.Ytplljicodflagaa.Pl
/- The flow graph of a net: the reference's text. -/
namespace Go.Proofs.Ytplljicodflagaa.Pl
set_option linter.unusedVariables false
open Go.RowKit Go.Proofs.Ytplljicodflagaa.P Go.Proofs.YtplljicodflagaaW.PrintWords Go.Proofs.YtplljicodflagaaW.PrintMore

theorem flow_split (ps : List Pla) (ts : List Tra) : mr (ps.length + ts.length) (fr ts ps.length ts.length) = mr ps.length (fr ts ps.length ts.length) ++ mr ts.length (fun t => (ts.getD t zT).f2.map (·.f0)) := by
  unfold mr
  rw [List.range_add, List.map_append, List.map_map]
  congr 1
  refine List.map_congr_left fun v hv => ?_
  have := List.mem_range.1 hv
  show fr ts ps.length ts.length (ps.length + v) = _
  unfold fr
  rw [if_neg (by omega), if_pos (by omega), show ps.length + v - ps.length = v by omega]
def rowAt (ts : List Tra) (K p i : Nat) : List Int := ((List.range i).filter (fun t : Nat => decide (weightS (ts.getD t zT).f1 (p : Int) > 0))).map (fun t : Nat => ((K + t : Nat) : Int))
theorem rowAt_len (ts : List Tra) (K p i : Nat) : (rowAt ts K p i).length ≤ i := by
  unfold rowAt
  rw [List.length_map]
  exact Nat.le_trans (List.length_filter_le _ _) (by rw [List.length_range]; exact Nat.le_refl _)
theorem rowAt_succ (ts : List Tra) (K p i : Nat) : rowAt ts K p (i + 1) = if weightS (ts.getD i zT).f1 (p : Int) > 0 then rowAt ts K p i ++ [((K + i : Nat) : Int)] else rowAt ts K p i := by
  unfold rowAt
  rw [filter_range_succ]
  by_cases c : weightS (ts.getD i zT).f1 (p : Int) > 0
  · rw [if_pos (decide_eq_true c), if_pos c, List.map_append]; rfl
  · rw [if_neg (by simpa using c), if_neg c]
theorem refflow_ev (nm : ByteArray) {ps : List Pla} {ts : List Tra} (hT : Thin ts) : Ev (fun k => r13_Flow.f k nm ps ts) (flowS (validS nm ps ts) ps ts) := by
  unfold r13_Flow.f flowS
  refine Ev.bind (refvalid_ev nm hT) ?_
  by_cases hv : validS nm ps ts = true
  · have V := validS_iff.1 hv
    have hp := V.p
    have ht := V.t
    simp only [hv, ↓reduceIte]
    rw [flow_split]
    have h2 : Ev (fun k => r13_Flow.l2 k (mr ps.length (fr ts ps.length ts.length) ++ mr 0 (fun t => (ts.getD t zT).f2.map (·.f0))) ((0 : Nat) : Int) nm ps ts) (mr ps.length (fr ts ps.length ts.length) ++ mr ts.length (fun t => (ts.getD t zT).f2.map (·.f0))) := by
      refine Ev_up (L := fun k i => r13_Flow.l2 k (mr ps.length (fr ts ps.length ts.length) ++ mr i (fun t => (ts.getD t zT).f2.map (·.f0))) (i : Int) nm ps ts) (n := ts.length) (fun i hi hr => ?_) (Ev.one (fun k => by simp only [r13_Flow.l2]; rw [if_neg (by omega)]))
      refine Ev.step (fun k => by simp only [r13_Flow.l2]; rw [if_pos (by omega), if_pos (by omega), rdT, wrap_up hi (by omega)]) ?_
      refine Ev.bind (reftargets_ev _ (hT.at hi).2.2.1) ?_
      refine Ev.congr (fun k => by rw [if_pos (by rw [List.length_append, mr_len, mr_len]; omega), List.append_assoc, ← mr_snoc i (fun t => (ts.getD t zT).f2.map (·.f0))]) hr
    refine Ev_up (L := fun k p => r13_Flow.l0 k (mr p (fr ts ps.length ts.length)) (p : Int) nm ps ts) (n := ps.length) (fun p hp' hr => ?_) (Ev.step (fun k => by simp only [r13_Flow.l0]; rw [if_neg (by omega)]) (by simpa [mr] using h2))
    refine Ev.step (f := fun k => r13_Flow.l1 k (mr p (fr ts ps.length ts.length)) (p : Int) (rowAt ts ps.length p 0) ((0 : Nat) : Int) nm ps ts) (fun k => by simp only [r13_Flow.l0]; rw [if_pos (by omega)]; rfl) ?_
    refine Ev_up (L := fun k t => r13_Flow.l1 k (mr p (fr ts ps.length ts.length)) (p : Int) (rowAt ts ps.length p t) (t : Int) nm ps ts) (n := ts.length) (fun t ht' hr1 => ?_) (Ev.step (fun k => by
      simp only [r13_Flow.l1]
      rw [if_neg (by omega), if_pos (by rw [mr_len]; omega), wrap_up hp' (by omega), show mr p (fr ts ps.length ts.length) ++ [rowAt ts ps.length p ts.length] = mr (p + 1) (fr ts ps.length ts.length) by
        rw [mr_snoc]; unfold fr rowAt; rw [if_pos (by omega)]]) hr)
    refine Ev.step (fun k => by simp only [r13_Flow.l1]; rw [if_pos (by omega), if_pos (by omega), rdT, wrap_up ht' (by omega), wrap_ok (x := (ps.length : Int) + (t : Int)) (by omega) (by omega), show ((ps.length : Int) + (t : Int)) = ((ps.length + t : Nat) : Int) by omega]) ?_
    refine Ev.bind (refweight_ev _ (p : Int) (hT.at ht').2.1) ?_
    rw [rowAt_succ] at hr1
    have hl := rowAt_len ts ps.length p t
    by_cases c : weightS (ts.getD t zT).f1 (p : Int) > 0
    · rw [if_pos c] at hr1
      exact Ev.congr (fun k => by rw [if_pos c, if_pos (by omega)]) hr1
    · rw [if_neg c] at hr1
      exact Ev.congr (fun k => by rw [if_neg c]) hr1
  · simp only [hv]; exact Ev.some _
end Go.Proofs.Ytplljicodflagaa.Pl
/- The flow graph of a valid net is small. -/
namespace Go.Proofs.Ytplljicodflagaa.Pl
set_option linter.unusedVariables false
open Go.RowKit Go.Proofs.Ytplljicodflagaa.P Go.Proofs.YtplljicodflagaaW.PrintWords Go.Proofs.YtplljicodflagaaW.PrintMore

theorem flow_len {v : Bool} {ps : List Pla} {ts : List Tra} (hv : v = true) : (flowS v ps ts).length = ps.length + ts.length := by unfold flowS; rw [if_pos hv, mr_len]
theorem flow_row {v : Bool} {ps : List Pla} {ts : List Tra} (hv : v = true) {x : Nat} (hx : x < ps.length + ts.length) : (flowS v ps ts).getD x [] = fr ts ps.length ts.length x := by unfold flowS; rw [if_pos hv, mr_get _ _ hx]
theorem arcs_bound {np : Nat} {l : List Ac} (h : arcsE (np : Int) l = 0) : l.length ≤ np := by
  refine Nat.le_of_not_lt fun hlt => ?_
  have : ∀ i, i < l.length → (i : Int) ≤ (l.getD i zA).f0 := by
    intro i
    induction i with
    | zero => intro hi; exact (arcsE_zero h 0 hi).1
    | succ i ih =>
      intro hi
      have h1 := ih (by omega)
      have h2 := (arcsE_zero h (i + 1) hi).2.2.1 (by omega)
      rw [show i + 1 - 1 = i by omega] at h2
      omega
  have h1 := this np hlt
  have h2 := (arcsE_zero h np hlt).2.1
  omega
theorem flow_few {nm : ByteArray} {ps : List Pla} {ts : List Tra} (V : ValidN nm ps ts) : (flowS true ps ts).length ≤ 320 ∧ ∀ u, u < (flowS true ps ts).length → ((flowS true ps ts).getD u []).length ≤ 600 := by
  have hp := V.p
  have ht := V.t
  rw [flow_len rfl]
  refine ⟨by omega, fun u hu => ?_⟩
  rw [flow_row rfl hu]
  by_cases h : u < ps.length
  · have := fr_len ts ps.length ts.length u h; omega
  · unfold fr
    rw [if_neg h, if_pos (by omega), List.length_map]
    have := arcs_bound (V.arcs (i := u - ps.length) (by omega)).2.2.1
    omega
end Go.Proofs.Ytplljicodflagaa.Pl
/- Reachability: the search over a stack. -/
namespace Go.Proofs.Ytplljicodflagaa.Pl
open Go.RowKit Go.Proofs.Ytplljicodflagaa.P Go.Proofs.YtplljicodflagaaW.PrintWords Go.Proofs.YtplljicodflagaaW.PrintMore
theorem cnt_set' {α : Type} (p : α → Bool) : ∀ (l : List α) (i : Nat) (x d : α), i < l.length → (l.set i x).countP p + (if p (l.getD i d) then 1 else 0) = l.countP p + (if p x then 1 else 0)
  | [], i, x, d, h => absurd h (by simp)
  | a :: l, 0, x, d, h => by simp [List.countP_cons]; omega
  | a :: l, i + 1, x, d, h => by
    have := cnt_set' p l i x d (by simpa using h)
    simp only [List.set_cons_succ, List.countP_cons, List.getD_cons_succ]
    omega
section
variable {g : List (List Int)}
/-- Reached from one of the first i numbers of the list. -/
def From (g : List (List Int)) (xs : List Int) (i v : Nat) : Prop := ∃ j s : Nat, j < i ∧ rd xs (j : Int) = (s : Int) ∧ R g s v
def IsReach (g : List (List Int)) (xs : List Int) (out : List Bool) : Prop := out.length = g.length ∧ ∀ v, v < g.length → (out.getD v false = true ↔ From g xs xs.length v)
theorem IsReach.uniq {xs : List Int} {a b : List Bool} (h : IsReach g xs a) (k : IsReach g xs b) : a = b := by
  refine ext_rdOf false (h.1.trans k.1.symm) (fun i hi => ?_)
  rw [rdOf_nat, rdOf_nat]
  have hi' : i < g.length := by rw [← h.1]; exact hi
  exact Bool.eq_iff_iff.2 ((h.2 i hi').trans (k.2 i hi').symm)
/-! ### the search over a stack -/
def tr (b : Bool) : Bool := !b
/-- S: what may be marked; pend: the vertex whose list is gone through. -/
structure RC (g : List (List Int)) (S : Nat → Prop) (pend : Nat → Prop) (M : Nat) (out : List Bool) (todo : List Int) : Prop where
  len : out.length = g.length
  tin : ∀ a ∈ todo, ∃ x : Nat, a = (x : Int) ∧ x < g.length ∧ out.getD x false = true
  sound : ∀ y, y < g.length → out.getD y false = true → S y
  closed : ∀ y, y < g.length → out.getD y false = true → (y : Int) ∈ todo ∨ pend y ∨ ∀ z, Ed g y z → out.getD z false = true
  size : 2 * out.countP tr + todo.length ≤ M
theorem visit_go {S pend : Nat → Prop} {M : Nat} {out : List Bool} {todo : List Int} (h : RC g S pend M out todo) (hM : M ≤ 100000) (w : Int) (hw : ∀ x : Nat, w = (x : Int) → x < g.length → S x) :
    ∃ p : List Bool × List Int, visitM g out todo w = some p ∧ RC g S pend M p.1 p.2 ∧ (∀ x : Nat, w = (x : Int) → x < g.length → p.1.getD x false = true) ∧ (∀ y, out.getD y false = true → p.1.getD y false = true) := by
  obtain ⟨len, tin, sound, closed, size⟩ := h
  by_cases c : 0 ≤ w ∧ w < (g.length : Int)
  · obtain ⟨c0, c1⟩ := c
    obtain ⟨x, rfl⟩ : ∃ x : Nat, w = (x : Int) := ⟨w.toNat, by omega⟩
    have hx : x < g.length := by omega
    by_cases d : out.getD x false = true
    · refine ⟨(out, todo), ?_, ⟨len, tin, sound, closed, size⟩, fun y hy _ => by rw [show y = x by omega]; exact d, fun y h => h⟩
      unfold visitM
      rw [if_pos c0, if_pos c1, rdOf_nat, if_pos d]
    · have d' : out.getD x false = false := by simpa using d
      have hg : ∀ y, (out.set x true).getD y false = if y = x then true else out.getD y false := fun y => getD_set _ _ _ _ _ (by omega)
      have hc : (out.set x true).countP tr + 1 = out.countP tr := by
        have := cnt_set' tr out x true false (by omega)
        rw [d'] at this
        simp [tr] at this
        exact this
      have hmono : ∀ y, out.getD y false = true → (out.set x true).getD y false = true := fun y h => by
        rw [hg]; split
        · rfl
        · exact h
      refine ⟨(out.set x true, todo ++ [(x : Int)]), ?_, ⟨by rw [List.length_set]; exact len, fun a ha => ?_, fun y hy h => ?_, fun y hy h => ?_, ?_⟩, fun y hy _ => ?_, hmono⟩
      · unfold visitM
        rw [if_pos c0, if_pos c1, rdOf_nat, if_neg d, if_pos (by omega), Int.toNat_natCast]
      · rcases List.mem_append.1 ha with ha | ha
        · obtain ⟨y, h1, h2, h3⟩ := tin a ha
          exact ⟨y, h1, h2, hmono y h3⟩
        · simp at ha
          exact ⟨x, ha, hx, by rw [hg, if_pos rfl]⟩
      · rw [hg] at h
        by_cases e : y = x
        · subst e; exact hw y rfl hy
        · rw [if_neg e] at h; exact sound y hy h
      · by_cases e : y = x
        · exact .inl (by rw [e]; simp)
        · rw [hg, if_neg e] at h
          rcases closed y hy h with h | h | h
          · exact .inl (List.mem_append.2 (.inl h))
          · exact .inr (.inl h)
          · exact .inr (.inr fun z hz => hmono z (h z hz))
      · rw [List.length_append]
        simp
        omega
      · have : y = x := by omega
        rw [this, hg, if_pos rfl]
  · refine ⟨(out, todo), ?_, ⟨len, tin, sound, closed, size⟩, fun y hy h => absurd (by omega) c, fun y h => h⟩
    unfold visitM
    by_cases c0 : 0 ≤ w
    · rw [if_pos c0, if_neg (fun c1 => c ⟨c0, c1⟩)]
    · rw [if_neg c0]
theorem reach_loop (hf : Few g) {S : Nat → Prop} (hS : ∀ u v, S u → Ed g u v → S v) : ∀ (M : Nat) (out : List Bool) (todo : List Int), RC g S (fun _ => False) M out todo → M ≤ 100000 →
    ∃ o, Ev (fun k => digraph_Reach.l1 k g out todo) o ∧ RC g S (fun _ => False) M o [] ∧ ∀ y, out.getD y false = true → o.getD y false = true := by
  intro M
  induction M using Nat.strongRecOn with
  | _ M ih =>
  intro out todo h hM
  by_cases c : 0 < (todo.length : Int)
  · obtain ⟨v, hv, hvg, hvo⟩ := h.tin _ (rd_mem (xs := todo) (i := (todo.length : Int) - 1) (by omega) (by omega))
    have hsz := h.size
    have h20 := hf.2 v hvg
    have hdrop : todo = todo.take (todo.length - 1) ++ [(v : Int)] := by
      have e1 := List.take_append_drop (todo.length - 1) todo
      have e2 : todo.drop (todo.length - 1) = [(v : Int)] := by
        rw [List.drop_eq_getElem_cons (by omega), List.drop_eq_nil_of_le (by omega)]
        congr 1
        rw [← hv, show (todo.length : Int) - 1 = ((todo.length - 1 : Nat) : Int) by omega, rd_nat, List.getD_eq_getElem?_getD, List.getElem?_eq_getElem (by omega)]
        rfl
      rw [e2] at e1
      exact e1.symm
    obtain ⟨p, ⟨hp, hpm, hprog⟩, hk⟩ := Ev_for (l := fun k (p : List Bool × List Int) i => digraph_Reach.l2 k g p.1 p.2 (g.getD v []) i) (n := (g.getD v []).length)
      (inv := fun i p => RC g S (fun y => y = v) (M - 1) p.1 p.2 ∧ (∀ y, out.getD y false = true → p.1.getD y false = true) ∧ ∀ j, j < i → ∀ x : Nat, rd (g.getD v []) (j : Int) = (x : Int) → x < g.length → p.1.getD x false = true)
      (fun i p hi ⟨hp, hpm, hprog⟩ => by
        obtain ⟨q, hq1, hq2, hq3, hq4⟩ := visit_go hp (by omega) (rd (g.getD v []) (i : Int)) (fun x hx hxg => hS v x (h.sound v hvg hvo) ⟨hvg, hxg, by rw [← hx]; exact rd_mem (by omega) (by omega)⟩)
        refine ⟨q, ⟨hq2, fun y hy => hq4 y (hpm y hy), fun j hj x hx hxg => ?_⟩, fun r h => Ev.step (f := fun k => digraph_Reach.l2 k g q.1 q.2 (g.getD v []) ((i + 1 : Nat) : Int)) (fun k => ?_) h⟩
        · by_cases e : j = i
          · subst e; exact hq3 x hx hxg
          · exact hq4 x (hprog j (by omega) x hx hxg)
        · simp only [digraph_Reach.l2]
          rw [if_pos (by omega), if_pos (by omega), hq1, wrap_up hi (by omega)]
          rfl)
      (Nat.zero_le _) (s := (out, todo.take (todo.length - 1))) ⟨⟨h.len, fun a ha => h.tin a (List.mem_of_mem_take ha), h.sound, fun y hy hyo => by
          rcases h.closed y hy hyo with h1 | h1 | h1
          · rw [hdrop] at h1
            rcases List.mem_append.1 h1 with h1 | h1
            · exact .inl h1
            · simp at h1
              exact .inr (.inl (by omega))
          · exact h1.elim
          · exact .inr (.inr h1), by
            show 2 * out.countP tr + (todo.take (todo.length - 1)).length ≤ M - 1
            rw [List.length_take]; omega⟩, fun y hy => hy, fun j hj => absurd hj (Nat.not_lt_zero _)⟩
    obtain ⟨o2, t2⟩ := p
    have hp' : RC g S (fun _ => False) (M - 1) o2 t2 := ⟨hp.len, hp.tin, hp.sound, fun y hy hyo => by
      rcases hp.closed y hy hyo with h1 | h1 | h1
      · exact .inl h1
      · subst h1
        refine .inr (.inr fun z hz => ?_)
        obtain ⟨j, hj, e⟩ := mem_rd hz.2.2
        exact hprog j hj z e hz.2.1
      · exact .inr (.inr h1), hp.size⟩
    obtain ⟨o, ho1, ho2, ho3⟩ := ih (M - 1) (by omega) o2 t2 hp' (by omega)
    refine ⟨o, Ev.step (f := fun k => digraph_Reach.l2 k g out (todo.take (todo.length - 1)) (g.getD v []) 0) (fun k => ?_) (hk o (Ev.step (fun k => ?_) ho1)), ⟨ho2.len, ho2.tin, ho2.sound, ho2.closed, by have := ho2.size; omega⟩, fun y hy => ho3 y (hpm y hy)⟩
    · simp only [digraph_Reach.l1]
      rw [if_pos c, hv, if_pos (by omega), if_pos (by omega), rdL]
    · simp only [digraph_Reach.l2]
      rw [if_neg (by omega)]
  · have e : todo = [] := List.eq_nil_of_length_eq_zero (by omega)
    subst e
    exact ⟨out, Ev.one (fun k => by simp only [digraph_Reach.l1]; rw [if_neg c]), h, fun y hy => hy⟩
theorem reach_ev (hf : Few g) (xs : List Int) (hx : xs.length ≤ 1000) : ∃ out, Ev (fun k => digraph_Reach.f k g xs) out ∧ IsReach g xs out := by
  have g12 := hf.1
  have hS : ∀ u v, From g xs xs.length u → Ed g u v → From g xs xs.length v := fun u v ⟨j, s, h1, h2, h3⟩ he => ⟨j, s, h1, h2, h3.trans (R.edge he)⟩
  obtain ⟨p, ⟨hp, hprog⟩, hk⟩ := Ev_for (l := fun k (p : List Bool × List Int) i => digraph_Reach.l0 k g xs p.1 p.2 i) (n := xs.length)
    (inv := fun i p => RC g (From g xs xs.length) (fun _ => False) 1000 p.1 p.2 ∧ ∀ j, j < i → ∀ x : Nat, rd xs (j : Int) = (x : Int) → x < g.length → p.1.getD x false = true)
    (fun i p hi ⟨hp, hprog⟩ => by
      obtain ⟨q, hq1, hq2, hq3, hq4⟩ := visit_go hp (by omega) (rd xs (i : Int)) (fun x hx hxg => ⟨i, x, hi, hx, R.refl hxg⟩)
      refine ⟨q, ⟨hq2, fun j hj x hx hxg => ?_⟩, fun r h => Ev.step (f := fun k => digraph_Reach.l0 k g xs q.1 q.2 ((i + 1 : Nat) : Int)) (fun k => ?_) h⟩
      · by_cases e : j = i
        · subst e; exact hq3 x hx hxg
        · exact hq4 x (hprog j (by omega) x hx hxg)
      · simp only [digraph_Reach.l0]
        rw [if_pos (by omega), if_pos (by omega), hq1, wrap_up hi (by omega)]
        rfl)
    (Nat.zero_le _) (s := (List.replicate g.length false, [])) ⟨⟨by simp, fun a ha => (by cases ha), fun y hy h => by
        simp [List.getD_eq_getElem?_getD, hy] at h, fun y hy h => by
        simp [List.getD_eq_getElem?_getD, hy] at h, by
        have : (List.replicate g.length false).countP tr ≤ (List.replicate g.length false).length := List.countP_le_length
        simp at this ⊢
        omega⟩, fun j hj => absurd hj (Nat.not_lt_zero _)⟩
  obtain ⟨o1, t1⟩ := p
  obtain ⟨o, ho1, ho2, ho3⟩ := reach_loop hf hS 1000 o1 t1 hp (by omega)
  refine ⟨o, ?_, ho2.len, fun v hv => ⟨ho2.sound v hv, fun ⟨j, s, h1, h2, h3⟩ => ?_⟩⟩
  · refine Ev.congr (f := fun k => digraph_Reach.l0 k g xs (List.replicate g.length false) [] 0) (fun k => ?_) (hk o (Ev.step (fun k => ?_) ho1))
    · unfold digraph_Reach.f
      rw [if_pos (by omega)]
    · simp only [digraph_Reach.l0]
      rw [if_neg (by omega)]
  · have hs := ho3 s (hprog j h1 s h2 h3.lt.1)
    exact R.closed (p := fun y => o.getD y false = true) (fun a b ha hab => by
      rcases ho2.closed a hab.1 ha with h | h | h
      · cases h
      · exact h.elim
      · exact h b hab) h3 hs

end
end Go.Proofs.Ytplljicodflagaa.Pl
/- Lists that are alike. -/
namespace Go.Proofs.Ytplljicodflagaa.Pl
open Go.RowKit Go.Proofs.Ytplljicodflagaa.P Go.Proofs.YtplljicodflagaaW.PrintWords Go.Proofs.YtplljicodflagaaW.PrintMore

/-! ### Same -/

end Go.Proofs.Ytplljicodflagaa.Pl
/- Strongly connected components: the depth-first search with a stack, and its result: of each vertex the least one in its component. -/
namespace Go.Proofs.Ytplljicodflagaa.Pl
open Go.RowKit Go.Proofs.Ytplljicodflagaa.P Go.Proofs.YtplljicodflagaaW.PrintWords Go.Proofs.YtplljicodflagaaW.PrintMore

def up (l : List Nat) : List Int := l.map (fun x : Nat => (x : Int))
theorem up_app (a b : List Nat) : up (a ++ b) = up a ++ up b := by unfold up; exact List.map_append
theorem up_len (a : List Nat) : (up a).length = a.length := by unfold up; simp
theorem up_rd (a : List Nat) (i : Nat) (hi : i < a.length) : rd (up a) (i : Int) = ((a[i] : Nat) : Int) := by
  rw [rd_nat, List.getD_eq_getElem?_getD, List.getElem?_eq_getElem (by rw [up_len]; exact hi)]
  unfold up
  simp
theorem count_set {α : Type} (p : α → Bool) : ∀ (l : List α) (i : Nat) (x d : α), i < l.length → (l.set i x).countP p + (if p (l.getD i d) then 1 else 0) = l.countP p + (if p x then 1 else 0)
  | [], i, x, d, h => absurd h (by simp)
  | a :: l, 0, x, d, h => by simp [List.countP_cons]; omega
  | a :: l, i + 1, x, d, h => by
    have := count_set p l i x d (by simpa using h)
    simp only [List.set_cons_succ, List.countP_cons, List.getD_cons_succ]
    omega
/-- The least vertex of u's component. -/
def IsL (g : List (List Int)) (u : Nat) (x : Int) : Prop := ∃ m : Nat, x = (m : Int) ∧ R g u m ∧ R g m u ∧ ∀ w, R g u w → R g w u → m ≤ w
theorem IsL.uniq {g : List (List Int)} {u : Nat} {x y : Int} (h : IsL g u x) (k : IsL g u y) : x = y := by
  obtain ⟨a, rfl, h1, h2, h3⟩ := h
  obtain ⟨b, rfl, k1, k2, k3⟩ := k
  have := h3 b k1 k2
  have := k3 a h1 h2
  omega

section
variable {g : List (List Int)} {s s' : TS} {st gray : List Nat} {u v w x y : Nat}
def ix (s : TS) (v : Nat) : Int := rd s.index (v : Int)
def lw (s : TS) (v : Nat) : Int := rd s.low (v : Int)
def ou (s : TS) (v : Nat) : Int := rd s.out (v : Int)
def Bl (s : TS) (v : Nat) : Prop := ix s v ≠ 0 ∧ ou s v ≠ -1
def z0 (x : Int) : Bool := decide (x = 0)

structure TI (g : List (List Int)) (s : TS) (st gray : List Nat) : Prop where
  li : s.index.length = g.length
  ll : s.low.length = g.length
  lo : s.out.length = g.length
  stk : s.stack = up st
  stn : ∀ v, v ∈ st → v < g.length
  srt : st.Pairwise (fun a b => ix s a < ix s b)
  on : ∀ v, v < g.length → (v ∈ st ↔ ix s v ≠ 0 ∧ ou s v = -1)
  nx : s.next + (s.index.countP z0 : Int) = (g.length : Int)
  n0 : 0 ≤ s.next
  pos : ∀ v, v < g.length → 0 ≤ ix s v ∧ ix s v ≤ s.next
  gr : ∀ x, x ∈ gray → x ∈ st
  nw : ∀ u w, Ed g u w → ix s u ≠ 0 → u ∉ gray → ix s w ≠ 0
  bb : ∀ u w, Ed g u w → Bl s u → Bl s w
  lst : ∀ u, u < g.length → Bl s u → IsL g u (ou s u)
  down : ∀ x, x ∈ gray → ∀ y, y ∈ st → ix s x ≤ ix s y → R g x y
  back : ∀ y, y ∈ st → ∃ x, x ∈ gray ∧ ix s x ≤ ix s y ∧ R g y x

structure Fr (g : List (List Int)) (s s' : TS) : Prop where
  nx : s.next ≤ s'.next
  ix : ∀ w, w < g.length → ix s w ≠ 0 → ix s' w = ix s w
  lw : ∀ w, w < g.length → Pl.ix s w ≠ 0 → lw s' w = lw s w
  ou : ∀ w, w < g.length → Pl.ix s w ≠ 0 → ou s' w = ou s w
theorem Fr.trans {s1 : TS} (h : Fr g s s1) (k : Fr g s1 s') : Fr g s s' := ⟨Int.le_trans h.nx k.nx, fun w hw h0 => by rw [k.ix w hw (by rw [h.ix w hw h0]; exact h0), h.ix w hw h0], fun w hw h0 => by rw [k.lw w hw (by rw [h.ix w hw h0]; exact h0), h.lw w hw h0], fun w hw h0 => by rw [k.ou w hw (by rw [h.ix w hw h0]; exact h0), h.ou w hw h0]⟩

/-- What a search leaves behind. -/
structure Post (g : List (List Int)) (s : TS) (st gray : List Nat) (v : Nat) (s' : TS) (ext : List Nat) : Prop where
  inv : TI g s' (st ++ ext) gray
  fr : Fr g s s'
  seen : ix s' v ≠ 0
  how : (ext = [] ∧ Bl s' v ∧ s.next < lw s' v) ∨ (v ∈ ext ∧ 1 ≤ lw s' v ∧ (∃ y, y ∈ st ++ ext ∧ ix s' y = lw s' v ∧ R g v y) ∧ ∀ b, b ∈ ext → ∀ y, y ∈ st → Ed g b y → lw s' v ≤ ix s y)

/-- In the loop of v's search, at place i of its list. -/
structure LI (g : List (List Int)) (s0 : TS) (st gray : List Nat) (v : Nat) (i : Nat) (s : TS) (ext : List Nat) : Prop where
  inv : TI g s (st ++ v :: ext) (v :: gray)
  fr : Fr g s0 s
  iv : ix s v = s0.next + 1
  lv : 1 ≤ lw s v
  lv2 : lw s v ≤ ix s v
  wit : ∃ y, y ∈ st ++ v :: ext ∧ ix s y = lw s v ∧ R g v y
  out : ∀ b, b ∈ ext → ∀ y, y ∈ st → Ed g b y → lw s v ≤ ix s y
  did : ∀ j : Nat, j < i → ∀ y : Nat, rd (g.getD v []) (j : Int) = (y : Int) → y < g.length → ix s y ≠ 0 ∧ (y ∈ st → lw s v ≤ ix s y)

theorem TI.len (h : TI g s st gray) : st.length ≤ g.length := nodup_le g.length st (h.srt.imp (fun h e => by rw [e] at h; exact absurd h (Int.lt_irrefl _))) h.stn

/-! ### the end of a search -/
theorem down_ok (l : List Int) (v : Int) (a : Nat) (ha : rd l (a : Int) = v) : ∀ d : Nat, (∀ j : Nat, a < j → j ≤ a + d → rd l (j : Int) ≠ v) → downT l v (a + d) = some a
  | 0, _ => by
    cases a with
    | zero => simp only [downT]; rw [if_pos (by simpa using ha)]
    | succ a => simp only [downT]; rw [if_pos ha]
  | d + 1, h => by
    rw [show a + (d + 1) = (a + d) + 1 by omega]
    unfold downT
    rw [if_neg (h (a + d + 1) (by omega) (by omega)), down_ok l v a ha d (fun j h1 h2 => h j h1 (by omega))]
theorem assign_ok (f : Int) : ∀ (C : List Nat) (o : List Int) (n : Nat), o.length = n → (∀ c, c ∈ C → c < n) → ∃ o', assignT o (up C) f = some o' ∧ o'.length = n ∧ ∀ w : Nat, rd o' (w : Int) = if w ∈ C then f else rd o (w : Int)
  | [], o, n, hl, _ => ⟨o, rfl, hl, fun w => by simp⟩
  | c :: C, o, n, hl, h => by
    have hc := h c (List.mem_cons_self ..)
    obtain ⟨o', h1, h2, h3⟩ := assign_ok f C (o.set c f) n (by rw [List.length_set]; exact hl) (fun c hc => h c (List.mem_cons_of_mem _ hc))
    refine ⟨o', ?_, h2, fun w => ?_⟩
    · show (if 0 ≤ (c : Int) then (if (c : Int) < (o.length : Int) then assignT (o.set (c : Int).toNat f) (up C) f else none) else none) = some o'
      rw [if_pos (by omega), if_pos (by omega), Int.toNat_natCast, h1]
    · rw [h3 w]
      by_cases e : w ∈ C
      · rw [if_pos e, if_pos (List.mem_cons_of_mem _ e)]
      · rw [if_neg e]
        have := rd_set o (c : Int) (w : Int) f (by omega) (by omega) (by omega)
        rw [Int.toNat_natCast] at this
        rw [this]
        by_cases e2 : w = c
        · rw [if_pos (by omega), if_pos (by rw [e2]; exact List.mem_cons_self ..)]
        · rw [if_neg (by omega), if_neg (fun hm => (List.mem_cons.1 hm).elim e2 e)]
theorem least_ok : ∀ (C : List Nat) (a : Nat), ∃ m : Nat, (up C).foldl mn (a : Int) = (m : Int) ∧ (m = a ∨ m ∈ C) ∧ m ≤ a ∧ ∀ c, c ∈ C → m ≤ c
  | [], a => ⟨a, rfl, .inl rfl, Nat.le_refl _, fun c h => by cases h⟩
  | c :: C, a => by
    have hf : (up (c :: C)).foldl mn (a : Int) = (up C).foldl mn (((if c < a then c else a : Nat) : Nat) : Int) := by
      show (up C).foldl mn (mn (a : Int) (c : Int)) = _
      congr 1
      unfold mn
      by_cases e : c < a
      · rw [if_pos e, if_pos (by omega)]
      · rw [if_neg e, if_neg (by omega)]
    obtain ⟨m, h1, h2, h3, h4⟩ := least_ok C (if c < a then c else a)
    refine ⟨m, hf.trans h1, ?_, ?_, fun x hx => ?_⟩
    · rcases h2 with h2 | h2
      · by_cases e : c < a
        · rw [if_pos e] at h2; exact .inr (by rw [h2]; exact List.mem_cons_self ..)
        · rw [if_neg e] at h2; exact .inl h2
      · exact .inr (List.mem_cons_of_mem _ h2)
    · split at h3 <;> omega
    · rcases List.mem_cons.1 hx with rfl | hx
      · split at h3 <;> omega
      · exact h4 x hx

theorem LI.fin {s0 : TS} {ext : List Nat} (h : LI g s0 st gray v (g.getD v []).length s ext) (hv : v < g.length) (h0 : TI g s0 st gray) (hw : ix s0 v = 0) :
    ∃ s' e', (if rd s.low (v : Int) = rd s.index (v : Int) then finishT (v : Int) s else some s) = some s' ∧ Post g s0 st gray v s' e' := by
  obtain ⟨I, fr, iv, lv, lv2, wit, hout, did⟩ := h
  have hvst : v ∉ st := fun hm => ((h0.on v hv).1 hm).1 hw
  have succ : ∀ y, Ed g v y → ix s y ≠ 0 ∧ (y ∈ st → lw s v ≤ ix s y) := fun y hy => by
    obtain ⟨j, hj, e⟩ := mem_rd hy.2.2
    exact did j hj y e hy.2.1
  obtain ⟨p1, p2, p3⟩ := List.pairwise_append.1 I.srt
  obtain ⟨p4, p5⟩ := List.pairwise_cons.1 p2
  have before : ∀ y, y ∈ st → ix s y < ix s v := fun y hy => p3 y hy v (List.mem_cons_self ..)
  have after : ∀ b, b ∈ v :: ext → ix s v ≤ ix s b := fun b hb => by
    rcases List.mem_cons.1 hb with rfl | hb
    · exact Int.le_refl _
    · exact Int.le_of_lt (p4 b hb)
  have grst : ∀ x, x ∈ gray → x ∈ st := fun x hx => h0.gr x hx
  have ext0 : ∀ b, b ∈ ext → b ∉ v :: gray := fun b hb hm => by
    rcases List.mem_cons.1 hm with rfl | hm
    · exact absurd (p4 b hb) (Int.lt_irrefl _)
    · have := before b (grst b hm)
      have := p4 b hb
      omega
  by_cases c : rd s.low (v : Int) = rd s.index (v : Int)
  · have c' : lw s v = ix s v := c
    rw [if_pos c]
    -- the component is closed but for what is done
    have closed : ∀ b w, b ∈ v :: ext → Ed g b w → Bl s w ∨ w ∈ v :: ext := fun b w hb he => by
      have hwn : ix s w ≠ 0 ∧ (w ∈ st → lw s v ≤ ix s w) := by
        rcases List.mem_cons.1 hb with rfl | hb
        · exact succ w he
        · have hbs : b ∈ st ++ v :: ext := List.mem_append.2 (.inr (List.mem_cons_of_mem _ hb))
          exact ⟨I.nw b w he ((I.on b he.1).1 hbs).1 (ext0 b hb), fun hws => hout b hb w hws he⟩
      by_cases e : ou s w = -1
      · have hm := (I.on w he.2.1).2 ⟨hwn.1, e⟩
        rcases List.mem_append.1 hm with hm | hm
        · have := hwn.2 hm
          have := before w hm
          omega
        · exact .inr hm
      · exact .inl ⟨hwn.1, e⟩
    have reach : ∀ b w, b ∈ v :: ext → R g b w → Bl s w ∨ w ∈ v :: ext := fun b w hb hr => R.closed (p := fun w => Bl s w ∨ w ∈ v :: ext) (fun a c ha he => ha.elim (fun ha => .inl (I.bb a c he ha)) (fun ha => closed a c ha he)) hr (.inr hb)
    have inst : ∀ b, b ∈ v :: ext → b ∈ st ++ v :: ext := fun b hb => List.mem_append.2 (.inr hb)
    have toC : ∀ b, b ∈ v :: ext → R g v b := fun b hb => I.down v (List.mem_cons_self ..) b (inst b hb) (after b hb)
    have notB : ∀ b, b ∈ st ++ v :: ext → ¬ Bl s b := fun b hb h => h.2 ((I.on b (I.stn b hb)).1 hb).2
    have fromC : ∀ b, b ∈ v :: ext → R g b v := fun b hb => by
      obtain ⟨x, hx, _, hr⟩ := I.back b (inst b hb)
      rcases List.mem_cons.1 hx with rfl | hx
      · exact hr
      · rcases reach b x hb hr with h | h
        · exact absurd h (notB x (List.mem_append.2 (.inl (grst x hx))))
        · have := before x (grst x hx)
          have := after x h
          omega
    have scc : ∀ b w, b ∈ v :: ext → R g b w → R g w b → w ∈ v :: ext := fun b w hb h1 h2 => by
      rcases reach b w hb h1 with h | h
      · exact absurd (R.closed (p := fun w => Bl s w) (fun a c ha he => I.bb a c he ha) h2 h) (notB b (inst b hb))
      · exact h
    obtain ⟨m, m1, m2, m3, m4⟩ := least_ok (v :: ext) v
    have mC : m ∈ v :: ext := m2.elim (fun h => by rw [h]; exact List.mem_cons_self ..) id
    obtain ⟨o, o1, o2, o3⟩ := assign_ok (m : Int) (v :: ext) s.out g.length I.lo (fun c hc => I.stn c (inst c hc))
    have hlen : s.stack.length = st.length + (ext.length + 1) := by rw [I.stk, up_len]; simp
    have hdrop : s.stack.drop st.length = up (v :: ext) := by rw [I.stk, up_app, ← up_len st, List.drop_left]
    have htake : s.stack.take st.length = up st := by rw [I.stk, up_app, ← up_len st, List.take_left]
    have hdown : downT s.stack (v : Int) (s.stack.length - 1) = some st.length := by
      rw [show s.stack.length - 1 = st.length + ext.length by omega, I.stk]
      refine down_ok _ _ _ ?_ _ (fun j j1 j2 => ?_)
      · rw [up_rd _ _ (by simp)]
        simp
      · have hj : j < (st ++ v :: ext).length := by simp; omega
        rw [up_rd _ _ hj]
        have : (st ++ v :: ext)[j] ∈ ext := by
          rw [List.getElem_append_right (by omega), List.getElem_cons]
          rw [dif_neg (by omega)]
          exact List.getElem_mem _
        intro e
        have e2 : (st ++ v :: ext)[j] = v := by omega
        rw [e2] at this
        exact ext0 v this (List.mem_cons_self ..)
    refine ⟨{ s with out := o, stack := up st }, [], ?_, ?_⟩
    · unfold finishT
      rw [if_pos (by omega), hdown]
      simp only [Option.bind_some]
      rw [hdrop, htake, m1, o1]
      rfl
    · have eix : ∀ w, ix { s with out := o, stack := up st } w = ix s w := fun w => rfl
      have elw : ∀ w, lw { s with out := o, stack := up st } w = lw s w := fun w => rfl
      have eou : ∀ w, ou { s with out := o, stack := up st } w = if w ∈ v :: ext then (m : Int) else ou s w := fun w => o3 w
      have stC : ∀ w, w ∈ st → w ∉ v :: ext := fun w hw hm => by
        have := before w hw
        have := after w hm
        omega
      have bl : ∀ w, w < g.length → (Bl { s with out := o, stack := up st } w ↔ Bl s w ∨ w ∈ v :: ext) := fun w hw => by
        unfold Bl
        rw [eix, eou]
        by_cases e : w ∈ v :: ext
        · rw [if_pos e]
          exact ⟨fun _ => .inr e, fun _ => ⟨((I.on w hw).1 (inst w e)).1, by omega⟩⟩
        · rw [if_neg e]
          exact ⟨.inl, fun h => h.elim id (fun h => absurd h e)⟩
      refine ⟨⟨I.li, I.ll, o2, by rw [List.append_nil], fun w hw => by rw [List.append_nil] at hw; exact h0.stn w hw, by rw [List.append_nil]; exact p1, fun w hw => ?_, I.nx, I.n0, I.pos, fun x hx => by rw [List.append_nil]; exact grst x hx, fun a b he ha hag => ?_, fun a b he ha => ?_, fun a ha hb => ?_, fun x hx y hy hle => ?_, fun y hy => ?_⟩, ⟨fr.nx, fr.ix, fr.lw, fun w hw h1 => ?_⟩, ?_, .inl ⟨rfl, ?_, ?_⟩⟩
      · rw [List.append_nil, eix, eou]
        constructor
        · intro hm
          rw [if_neg (stC w hm)]
          exact (I.on w hw).1 (List.mem_append.2 (.inl hm))
        · intro ⟨h1, h2⟩
          by_cases e : w ∈ v :: ext
          · rw [if_pos e] at h2; omega
          · rw [if_neg e] at h2
            exact (List.mem_append.1 ((I.on w hw).2 ⟨h1, h2⟩)).elim id (fun h => absurd h e)
      · rw [eix] at ha ⊢
        by_cases e : a = v
        · subst e; exact (succ b he).1
        · exact I.nw a b he ha (fun hm => (List.mem_cons.1 hm).elim e hag)
      · rw [bl a he.1] at ha
        rw [bl b he.2.1]
        exact ha.elim (fun ha => .inl (I.bb a b he ha)) (fun ha => closed a b ha he)
      · rw [eou]
        by_cases e : a ∈ v :: ext
        · rw [if_pos e]
          exact ⟨m, rfl, (fromC a e).trans (toC m mC), (fromC m mC).trans (toC a e), fun w h1 h2 => (List.mem_cons.1 (scc a w e h1 h2)).elim (fun h => by rw [h]; exact m3) (fun h => m4 w (List.mem_cons_of_mem _ h))⟩
        · rw [if_neg e]
          exact I.lst a ha (((bl a ha).1 hb).elim id (fun h => absurd h e))
      · rw [List.append_nil] at hy
        exact I.down x (List.mem_cons_of_mem _ hx) y (List.mem_append.2 (.inl hy)) hle
      · rw [List.append_nil] at hy
        obtain ⟨x, hx, h1, h2⟩ := I.back y (List.mem_append.2 (.inl hy))
        rcases List.mem_cons.1 hx with rfl | hx
        · have := before y hy
          omega
        · exact ⟨x, hx, h1, h2⟩
      · rw [eou, if_neg (fun hm => ?_)]
        · exact fr.ou w hw h1
        · by_cases hws : w ∈ st
          · exact stC w hws hm
          · have h3 := fr.ou w hw h1
            have h4 := ((I.on w hw).1 (inst w hm)).2
            rw [h4] at h3
            exact hws ((h0.on w hw).2 ⟨h1, h3.symm⟩)
      · rw [eix, iv]; have := h0.n0; omega
      · exact (bl v hv).2 (.inr (List.mem_cons_self ..))
      · rw [elw, c', iv]; omega
  · have c' : lw s v < ix s v := by
      have : lw s v ≠ ix s v := c
      omega
    rw [if_neg c]
    refine ⟨s, v :: ext, rfl, ⟨I.li, I.ll, I.lo, I.stk, I.stn, I.srt, I.on, I.nx, I.n0, I.pos, fun x hx => I.gr x (List.mem_cons_of_mem _ hx), fun a b he ha hag => ?_, I.bb, I.lst, fun x hx => I.down x (List.mem_cons_of_mem _ hx), fun y hy => ?_⟩, fr, by rw [iv]; have := h0.n0; omega, .inr ⟨List.mem_cons_self .., lv, wit, fun b hb y hy he => ?_⟩⟩
    · by_cases e : a = v
      · subst e; exact (succ b he).1
      · exact I.nw a b he ha (fun hm => (List.mem_cons.1 hm).elim e hag)
    · obtain ⟨x, hx, h1, h2⟩ := I.back y hy
      rcases List.mem_cons.1 hx with rfl | hx
      · obtain ⟨z, hz, z1, z2⟩ := wit
        obtain ⟨x', hx', h3, h4⟩ := I.back z hz
        rcases List.mem_cons.1 hx' with rfl | hx'
        · omega
        · exact ⟨x', hx', by omega, (h2.trans z2).trans h4⟩
      · exact ⟨x, hx, h1, h2⟩
    · rw [← fr.ix y (h0.stn y hy) ((h0.on y (h0.stn y hy)).1 hy).1]
      rcases List.mem_cons.1 hb with rfl | hb
      · exact (succ y he).2 hy
      · exact hout b hb y hy he

/-! ### the loop of a search -/
theorem TI.low (h : TI g s st gray) (l : List Int) (hl : l.length = g.length) : TI g { s with low := l } st gray := ⟨h.li, hl, h.lo, h.stk, h.stn, h.srt, h.on, h.nx, h.n0, h.pos, h.gr, h.nw, h.bb, h.lst, h.down, h.back⟩
theorem lw_set (s : TS) (v w : Nat) (m : Int) (hv : v < s.low.length) : lw { s with low := s.low.set v m } w = if w = v then m else lw s w := by
  have := rd_set s.low (v : Int) (w : Int) m (by omega) (by omega) (by omega)
  rw [Int.toNat_natCast] at this
  show rd (s.low.set v m) (w : Int) = _
  rw [this]
  by_cases e : w = v
  · rw [if_pos e, if_pos (by omega)]
  · rw [if_neg e, if_neg (by omega)]; rfl
theorem LI.put {s0 : TS} {ext : List Nat} {i : Nat} (h : LI g s0 st gray v i s ext) (hv : v < g.length) (hw : ix s0 v = 0) {m : Int} (h1 : 1 ≤ m) (h2 : m ≤ lw s v) (wit : ∃ y, y ∈ st ++ v :: ext ∧ ix s y = m ∧ R g v y) :
    LI g s0 st gray v i { s with low := s.low.set v m } ext := by
  have hl := lw_set s v
  have hll := h.inv.ll
  have e : lw { s with low := s.low.set v m } v = m := by rw [hl v m (by omega), if_pos rfl]
  refine ⟨h.inv.low _ (by rw [List.length_set]; exact hll), ⟨h.fr.nx, h.fr.ix, fun w hwn h0 => ?_, h.fr.ou⟩, h.iv, by rw [e]; exact h1, by rw [e]; exact Int.le_trans h2 h.lv2, by rw [e]; exact wit, fun b hb y hy he => by rw [e]; exact Int.le_trans h2 (h.out b hb y hy he), fun j hj y hy hyn => ⟨(h.did j hj y hy hyn).1, fun hys => by rw [e]; exact Int.le_trans h2 ((h.did j hj y hy hyn).2 hys)⟩⟩
  rw [hl w m (by omega), if_neg (fun e => h0 (by rw [e]; exact hw))]
  exact h.fr.lw w hwn h0
theorem LI.next {s0 : TS} {ext : List Nat} {i : Nat} (h : LI g s0 st gray v i s ext) (d : ∀ y : Nat, rd (g.getD v []) (i : Int) = (y : Int) → y < g.length → ix s y ≠ 0 ∧ (y ∈ st → lw s v ≤ ix s y)) : LI g s0 st gray v (i + 1) s ext :=
  ⟨h.inv, h.fr, h.iv, h.lv, h.lv2, h.wit, h.out, fun j hj y hy hyn => by
    by_cases e : j = i
    · subst e; exact d y hy hyn
    · exact h.did j (by omega) y hy hyn⟩
theorem mn_le (a b : Int) : mn a b ≤ a ∧ mn a b ≤ b ∧ (mn a b = a ∨ mn a b = b) := by
  unfold mn
  split
  · exact ⟨by omega, by omega, .inr rfl⟩
  · exact ⟨by omega, by omega, .inl rfl⟩
theorem LI.call {s0 s2 : TS} {ext ext2 : List Nat} {i : Nat} (h : LI g s0 st gray v i s ext) (h0 : TI g s0 st gray) (hv : v < g.length) (hw : ix s0 v = 0) (he : Ed g v w) (p : Post g s (st ++ v :: ext) (v :: gray) w s2 ext2) :
    LI g s0 st gray v i { s2 with low := s2.low.set v (mn (lw s2 v) (lw s2 w)) } (ext ++ ext2) := by
  have hl := lw_set s2 v
  have hll := p.inv.ll
  have hiv0 : ix s v ≠ 0 := by rw [h.iv]; have := h0.n0; omega
  have elv : lw s2 v = lw s v := p.fr.lw v hv hiv0
  have eiv : ix s2 v = ix s v := p.fr.ix v hv hiv0
  obtain ⟨m, hm⟩ : ∃ m, m = mn (lw s2 v) (lw s2 w) := ⟨_, rfl⟩
  rw [← hm]
  have e : lw { s2 with low := s2.low.set v m } v = m := by rw [hl v m (by omega), if_pos rfl]
  have happ : (st ++ v :: ext) ++ ext2 = st ++ v :: (ext ++ ext2) := by simp
  have I2 := p.inv
  rw [happ] at I2
  obtain ⟨n1, n2, n3⟩ := mn_le (lw s2 v) (lw s2 w)
  rw [← hm] at n1 n2 n3
  have old : ∀ y, y ∈ st ++ v :: ext → ix s2 y = ix s y := fun y hy => p.fr.ix y (h.inv.stn y hy) ((h.inv.on y (h.inv.stn y hy)).1 hy).1
  have m1 : 1 ≤ m := by
    have := h.lv
    rcases p.how with ⟨_, _, q⟩ | ⟨_, q, _⟩
    · have := h.inv.n0
      rcases n3 with n3 | n3 <;> omega
    · rcases n3 with n3 | n3 <;> omega
  have wit : ∃ y, y ∈ st ++ v :: (ext ++ ext2) ∧ ix s2 y = m ∧ R g v y := by
    have one : m = lw s v → ∃ y, y ∈ st ++ v :: (ext ++ ext2) ∧ ix s2 y = m ∧ R g v y := fun h2 => by
      obtain ⟨y, y1, y2, y3⟩ := h.wit
      exact ⟨y, by rw [← happ]; exact List.mem_append.2 (.inl y1), by rw [old y y1, y2, h2], y3⟩
    rcases n3 with n3 | n3
    · exact one (by rw [n3, elv])
    · rcases p.how with ⟨_, _, q⟩ | ⟨_, _, ⟨y, y1, y2, y3⟩, _⟩
      · have := (h.inv.pos v hv).2
        have := h.lv2
        omega
      · exact ⟨y, by rw [← happ]; exact y1, by rw [y2, n3], (R.edge he).trans y3⟩
  refine ⟨I2.low _ (by rw [List.length_set]; exact hll), ⟨Int.le_trans h.fr.nx p.fr.nx, fun w' hn h1 => (h.fr.trans p.fr).ix w' hn h1, fun w' hn h1 => ?_, fun w' hn h1 => (h.fr.trans p.fr).ou w' hn h1⟩, eiv.trans h.iv, by rw [e]; exact m1, ?_, by rw [e]; exact wit, fun b hb y hy hed => ?_, fun j hj y hy hyn => ?_⟩
  · rw [hl w' m (by omega), if_neg (fun e => h1 (by rw [e]; exact hw))]
    exact (h.fr.trans p.fr).lw w' hn h1
  · rw [e]
    show m ≤ ix s2 v
    rw [eiv]
    have := h.lv2
    omega
  · rw [e]
    have hy2 : y ∈ st ++ v :: ext := List.mem_append.2 (.inl hy)
    show m ≤ ix s2 y
    rw [old y hy2]
    rcases List.mem_append.1 hb with hb | hb
    · have := h.out b hb y hy hed
      omega
    · rcases p.how with ⟨q, _, _⟩ | ⟨_, _, _, q⟩
      · rw [q] at hb; cases hb
      · have := q b hb y hy2 hed
        omega
  · obtain ⟨d1, d2⟩ := h.did j hj y hy hyn
    have e2 := p.fr.ix y hyn d1
    refine ⟨by show ix s2 y ≠ 0; rw [e2]; exact d1, fun hys => ?_⟩
    rw [e]
    show m ≤ ix s2 y
    rw [e2]
    have := d2 hys
    omega

theorem search_begin (h : TI g s st gray) (hv : v < g.length) (hw : ix s v = 0) (hr : ∀ x, x ∈ gray → R g x v) :
    LI g s st gray v 0 { next := s.next + 1, index := s.index.set v (s.next + 1), low := s.low.set v (s.next + 1), out := s.out.set v (-1), stack := s.stack ++ [(v : Int)] } [] := by
  obtain ⟨s1, hs1⟩ : ∃ s1 : TS, s1 = { next := s.next + 1, index := s.index.set v (s.next + 1), low := s.low.set v (s.next + 1), out := s.out.set v (-1), stack := s.stack ++ [(v : Int)] } := ⟨_, rfl⟩
  rw [← hs1]
  have hli := h.li
  have hll := h.ll
  have hlo := h.lo
  have hn0 := h.n0
  have eix : ∀ w : Nat, ix s1 w = if w = v then s.next + 1 else ix s w := fun w => by
    have := rd_set s.index (v : Int) (w : Int) (s.next + 1) (by omega) (by omega) (by omega)
    rw [Int.toNat_natCast] at this
    rw [hs1]
    show rd (s.index.set v (s.next + 1)) (w : Int) = _
    rw [this]
    by_cases e : w = v
    · rw [if_pos e, if_pos (by omega)]
    · rw [if_neg e, if_neg (by omega)]; rfl
  have elw : ∀ w : Nat, lw s1 w = if w = v then s.next + 1 else lw s w := fun w => by
    have := rd_set s.low (v : Int) (w : Int) (s.next + 1) (by omega) (by omega) (by omega)
    rw [Int.toNat_natCast] at this
    rw [hs1]
    show rd (s.low.set v (s.next + 1)) (w : Int) = _
    rw [this]
    by_cases e : w = v
    · rw [if_pos e, if_pos (by omega)]
    · rw [if_neg e, if_neg (by omega)]; rfl
  have eou : ∀ w : Nat, ou s1 w = if w = v then -1 else ou s w := fun w => by
    have := rd_set s.out (v : Int) (w : Int) (-1) (by omega) (by omega) (by omega)
    rw [Int.toNat_natCast] at this
    rw [hs1]
    show rd (s.out.set v (-1)) (w : Int) = _
    rw [this]
    by_cases e : w = v
    · rw [if_pos e, if_pos (by omega)]
    · rw [if_neg e, if_neg (by omega)]; rfl
  have ne : ∀ w, ix s w ≠ 0 → w ≠ v := fun w h0 e => h0 (by rw [e]; exact hw)
  have stne : ∀ w, w ∈ st → w ≠ v := fun w hm => ne w ((h.on w (h.stn w hm)).1 hm).1
  have stv : ∀ w, w ∈ st → ix s1 w = ix s w := fun w hm => by rw [eix, if_neg (stne w hm)]
  have ivv : ix s1 v = s.next + 1 := by rw [eix, if_pos rfl]
  have bl : ∀ w, Bl s1 w ↔ Bl s w := fun w => by
    unfold Bl
    rw [eix, eou]
    by_cases e : w = v
    · rw [if_pos e, if_pos e]
      exact ⟨fun h => absurd rfl h.2, fun h => absurd e (ne w h.1)⟩
    · rw [if_neg e, if_neg e]
  have hnx : s1.next = s.next + 1 := by rw [hs1]
  have hix : s1.index = s.index.set v (s.next + 1) := by rw [hs1]
  refine ⟨⟨by rw [hix, List.length_set]; exact hli, by rw [hs1]; show (s.low.set v (s.next + 1)).length = _; rw [List.length_set]; exact hll, by rw [hs1]; show (s.out.set v (-1)).length = _; rw [List.length_set]; exact hlo, by rw [hs1]; show s.stack ++ [(v : Int)] = _; rw [up_app, h.stk]; rfl, fun w hm => ?_, ?_, fun w hwn => ?_, ?_, by rw [hnx]; omega, fun w hwn => ?_, fun x hx => ?_, fun a b he ha hag => ?_, fun a b he ha => ?_, fun a ha hb => ?_, fun x hx y hy hle => ?_, fun y hy => ?_⟩, ⟨by rw [hnx]; omega, fun w hwn h0 => by rw [eix, if_neg (ne w h0)], fun w hwn h0 => by rw [elw, if_neg (ne w h0)], fun w hwn h0 => by rw [eou, if_neg (ne w h0)]⟩, ivv, by rw [elw, if_pos rfl]; omega, by rw [elw, if_pos rfl, ivv]; exact Int.le_refl _, ⟨v, by simp, by rw [ivv, elw, if_pos rfl], R.refl hv⟩, fun b hb => (by cases hb), fun j hj => absurd hj (Nat.not_lt_zero _)⟩
  · rcases List.mem_append.1 hm with hm | hm
    · exact h.stn w hm
    · simp at hm; omega
  · refine List.pairwise_append.2 ⟨h.srt.imp_of_mem (fun ha hb hab => by rw [stv _ ha, stv _ hb]; exact hab), by simp, fun a ha b hb => ?_⟩
    simp at hb
    rw [hb, stv a ha, ivv]
    have := (h.pos a (h.stn a ha)).2
    omega
  · rw [eix, eou, List.mem_append]
    by_cases e : w = v
    · rw [if_pos e, if_pos e]
      exact ⟨fun _ => ⟨by omega, rfl⟩, fun _ => .inr (by simp [e])⟩
    · rw [if_neg e, if_neg e, ← h.on w hwn]
      exact ⟨fun h => h.elim id (fun h => by simp at h; exact absurd h e), .inl⟩
  · have hc := count_set z0 s.index v (s.next + 1) 0 (by omega)
    have e1 : z0 (s.index.getD v 0) = true := by
      unfold z0
      rw [← rd_nat]
      exact decide_eq_true hw
    have e2 : z0 (s.next + 1) = false := decide_eq_false (by omega)
    rw [e1, e2, if_pos rfl, if_neg Bool.false_ne_true] at hc
    have := h.nx
    rw [hnx, hix]
    omega
  · rw [eix, hnx]
    have := h.pos w hwn
    split <;> omega
  · rcases List.mem_cons.1 hx with rfl | hx
    · simp
    · exact List.mem_append.2 (.inl (h.gr x hx))
  · have hav : a ≠ v := fun e => hag (by rw [e]; exact List.mem_cons_self ..)
    rw [eix, if_neg hav] at ha
    have := h.nw a b he ha (fun hm => hag (List.mem_cons_of_mem _ hm))
    rw [eix, if_neg (ne b this)]
    exact this
  · exact (bl b).2 (h.bb a b he ((bl a).1 ha))
  · have hb2 := (bl a).1 hb
    rw [eou, if_neg (ne a hb2.1)]
    exact h.lst a ha hb2
  · rcases List.mem_cons.1 hx with rfl | hx
    · rcases List.mem_append.1 hy with hy | hy
      · rw [ivv, stv y hy] at hle
        have := (h.pos y (h.stn y hy)).2
        omega
      · simp at hy
        rw [hy]; exact R.refl hv
    · rcases List.mem_append.1 hy with hy | hy
      · rw [stv y hy, stv x (h.gr x hx)] at hle
        exact h.down x hx y hy hle
      · simp at hy
        rw [hy]; exact hr x hx
  · rcases List.mem_append.1 hy with hy | hy
    · obtain ⟨x, hx, h1, h2⟩ := h.back y hy
      exact ⟨x, List.mem_cons_of_mem _ hx, by rw [stv y hy, stv x (h.gr x hx)]; exact h1, h2⟩
    · simp at hy
      exact ⟨v, List.mem_cons_self .., by rw [hy]; exact Int.le_refl _, by rw [hy]; exact R.refl hv⟩

theorem search_ev (h12 : g.length ≤ 1000000) (h20 : ∀ u, u < g.length → (g.getD u []).length ≤ 1000000) (rdL : ∀ i : Nat, rd_L11 g (i : Int) = g.getD i []) : ∀ (M : Nat) (s : TS) (st gray : List Nat) (v : Nat), s.index.countP z0 ≤ M → TI g s st gray → v < g.length → ix s v = 0 → (∀ x, x ∈ gray → R g x v) → ∃ s' ext, Ev (fun k => searchT k g (v : Int) s) s' ∧ Post g s st gray v s' ext := by
  intro M
  induction M with
  | zero =>
    intro s st gray v hM h hv hw hr
    exfalso
    have hli := h.li
    have : s.index.getD v 0 ∈ s.index := by
      rw [List.getD_eq_getElem?_getD, List.getElem?_eq_getElem (by omega)]
      exact List.getElem_mem _
    have h0 := (List.countP_eq_zero.1 (Nat.le_zero.1 hM)) _ this
    exact h0 (by unfold z0; rw [← rd_nat]; exact decide_eq_true hw)
  | succ M ih =>
    intro s st gray v hM h hv hw hr
    have hb := search_begin h hv hw hr
    obtain ⟨s1, hs1⟩ : ∃ s1 : TS, s1 = { next := s.next + 1, index := s.index.set v (s.next + 1), low := s.low.set v (s.next + 1), out := s.out.set v (-1), stack := s.stack ++ [(v : Int)] } := ⟨_, rfl⟩
    rw [← hs1] at hb
    have hxl := h20 v hv
    obtain ⟨s2, ⟨ext, h2⟩, hk⟩ := Ev_for (l := fun k (s : TS) i => loopT k g (v : Int) (g.getD v []) i s) (n := (g.getD v []).length) (inv := fun i s' => ∃ ext, LI g s st gray v i s' ext)
      (fun i s' hi ⟨ext, hL⟩ => by
        obtain ⟨a, ha⟩ : ∃ a, a = rd (g.getD v []) (i : Int) := ⟨_, rfl⟩
        by_cases c : 0 ≤ a ∧ a < (g.length : Int)
        · obtain ⟨c0, c1⟩ := c
          obtain ⟨w, rfl⟩ : ∃ w : Nat, a = (w : Int) := ⟨a.toNat, by omega⟩
          have hwn : w < g.length := by omega
          have he : Ed g v w := ⟨hv, hwn, by rw [ha]; exact rd_mem (by omega) (by omega)⟩
          by_cases d : rd s'.index (w : Int) = 0
          · have hgr : ∀ x, x ∈ v :: gray → R g x w := fun x hx => by
              rcases List.mem_cons.1 hx with rfl | hx
              · exact R.edge he
              · exact (hr x hx).trans (R.edge he)
            have hcnt : s'.index.countP z0 ≤ M := by
              have h1 := hL.inv.nx
              have h2 := h.nx
              have h3 := (hL.inv.pos v hv).2
              have h4 := hL.iv
              omega
            obtain ⟨s2, ext2, hev, hp⟩ := ih s' (st ++ v :: ext) (v :: gray) w hcnt hL.inv hwn d hgr
            refine ⟨_, ⟨ext ++ ext2, (hL.call h hv hw he hp).next (fun y hy hyn => ?_)⟩, fun r h => Ev.step (fun k => ?_) (Ev.bind (f := fun k s2 => loopT k g (v : Int) (g.getD v []) ((i + 1 : Nat) : Int) { s2 with low := s2.low.set v (mn (lw s2 v) (lw s2 w)) }) hev h)⟩
            · have : y = w := by omega
              subst this
              refine ⟨hp.seen, fun hys => ?_⟩
              exact absurd d ((hL.inv.on y hyn).1 (List.mem_append.2 (.inl hys))).1
            · simp only [loopT]
              rw [if_pos (by omega), if_pos (by omega), ← ha, if_pos ⟨c0, c1⟩, if_pos d, wrap_up hi (by omega), Int.toNat_natCast]
              rfl
          · by_cases d2 : rd s'.out (w : Int) = -1
            · have hws : w ∈ st ++ v :: ext := (hL.inv.on w hwn).2 ⟨d, d2⟩
              obtain ⟨n1, n2, n3⟩ := mn_le (lw s' v) (ix s' w)
              refine ⟨_, ⟨ext, (hL.put hv hw (m := mn (lw s' v) (ix s' w)) ?_ n1 ?_).next (fun y hy hyn => ?_)⟩, fun r h => Ev.step (fun k => ?_) h⟩
              · have h1 := hL.lv
                have h2 := (hL.inv.pos w hwn).1
                have d' : ix s' w ≠ 0 := d
                rcases n3 with n3 | n3 <;> omega
              · rcases n3 with n3 | n3
                · rw [n3]; exact hL.wit
                · exact ⟨w, hws, n3.symm, R.edge he⟩
              · have : y = w := by omega
                subst this
                refine ⟨d, fun _ => ?_⟩
                rw [lw_set s' v v _ (by rw [hL.inv.ll]; exact hv), if_pos rfl]
                exact n2
              · simp only [loopT]
                rw [if_pos (by omega), if_pos (by omega), ← ha, if_pos ⟨c0, c1⟩, if_neg d, if_pos d2, wrap_up hi (by omega), Int.toNat_natCast]
                rfl
            · refine ⟨s', ⟨ext, hL.next (fun y hy hyn => ?_)⟩, fun r h => Ev.step (fun k => ?_) h⟩
              · have : y = w := by omega
                subst this
                exact ⟨d, fun hys => absurd ((hL.inv.on y hyn).1 (List.mem_append.2 (.inl hys))).2 d2⟩
              · simp only [loopT]
                rw [if_pos (by omega), if_pos (by omega), ← ha, if_pos ⟨c0, c1⟩, if_neg d, if_neg d2, wrap_up hi (by omega)]
        · refine ⟨s', ⟨ext, hL.next (fun y hy hyn => absurd (by omega) c)⟩, fun r h => Ev.step (fun k => ?_) h⟩
          simp only [loopT]
          rw [if_pos (by omega), if_pos (by omega), ← ha, if_neg c, wrap_up hi (by omega)])
      (Nat.zero_le _) (s := s1) ⟨[], hb⟩
    obtain ⟨s', e', hfin, hp⟩ := h2.fin hv h hw
    have hnx := h.nx
    have hn0 := h.n0
    refine ⟨s', e', Ev.step (f := fun k => loopT k g (v : Int) (g.getD v []) 0 s1) (fun k => ?_) (hk s' (Ev.one (fun k => ?_))), hp⟩
    · have hlen := h.len
      simp only [searchT]
      rw [if_pos (by omega), if_pos (by omega), if_pos (by rw [h.stk, up_len]; omega), rdL, wrap_ok (by omega) (by omega), Int.toNat_natCast, hs1]
    · simp only [loopT]
      rw [if_neg (by omega)]
      exact hfin

/-- Of each vertex the least one in its component. -/
def IsComp (g : List (List Int)) (c : List Int) : Prop := c.length = g.length ∧ ∀ v, v < g.length → IsL g v (rd c (v : Int))
theorem IsComp.uniq {a b : List Int} (h : IsComp g a) (k : IsComp g b) : a = b := ext_rd (h.1.trans k.1.symm) (fun i hi => (h.2 i (by rw [← h.1]; exact hi)).uniq (k.2 i (by rw [← h.1]; exact hi)))
theorem components_ev (h12 : g.length ≤ 1000000) (h20 : ∀ u, u < g.length → (g.getD u []).length ≤ 1000000) (rdL : ∀ i : Nat, rd_L11 g (i : Int) = g.getD i []) : ∃ c, Ev (fun k => digraph_Components.f k g) c ∧ IsComp g c := by
  have rep : ∀ w : Nat, rd (List.replicate g.length (0 : Int)) (w : Int) = 0 := fun w => by
    rw [rd_nat, List.getD_eq_getElem?_getD, List.getElem?_replicate]
    split <;> rfl
  obtain ⟨s, ⟨hT, hd⟩, hk⟩ := Ev_for (l := fun k (s : TS) i => digraph_Components.l0 k g i s) (n := g.length) (inv := fun i s => TI g s [] [] ∧ ∀ w, w < i → ix s w ≠ 0)
    (fun v s hv ⟨hT, hd⟩ => by
      by_cases c : rd s.index (v : Int) = 0
      · obtain ⟨s', ext, hev, hp⟩ := search_ev h12 h20 rdL _ s [] [] v (Nat.le_refl _) hT hv c (fun x hx => by cases hx)
        have hext : ext = [] := by
          cases ext with
          | nil => rfl
          | cons y l =>
            obtain ⟨x, hx, _⟩ := hp.inv.back y (by simp)
            cases hx
        have hI := hp.inv
        rw [hext] at hI
        refine ⟨s', ⟨hI, fun w hw => ?_⟩, fun r h => Ev.step (fun k => ?_) (Ev.bind hev h)⟩
        · by_cases e : w = v
          · rw [e]; exact hp.seen
          · rw [hp.fr.ix w (by omega) (hd w (by omega))]; exact hd w (by omega)
        · simp only [digraph_Components.l0]
          rw [if_pos (by omega), if_pos (by omega), if_pos c, wrap_up hv (by omega)]
      · refine ⟨s, ⟨hT, fun w hw => ?_⟩, fun r h => Ev.step (fun k => ?_) h⟩
        · by_cases e : w = v
          · rw [e]; exact c
          · exact hd w (by omega)
        · simp only [digraph_Components.l0]
          rw [if_pos (by omega), if_pos (by omega), if_neg c, wrap_up hv (by omega)])
    (Nat.zero_le _) (s := { next := 0, index := List.replicate g.length 0, low := List.replicate g.length 0, out := List.replicate g.length 0, stack := [] })
    ⟨⟨by simp, by simp, by simp, rfl, fun v hv => (by cases hv), List.Pairwise.nil, fun v hv => ⟨fun h => (by cases h), fun h => absurd (rep v) h.1⟩, by rw [List.countP_replicate, if_pos (show z0 0 = true from rfl)]; exact Int.zero_add _, Int.le_refl _, fun v hv => by
        have h0 : ix { next := 0, index := List.replicate g.length 0, low := List.replicate g.length 0, out := List.replicate g.length 0, stack := [] } v = 0 := rep v
        rw [h0]
        exact ⟨Int.le_refl _, Int.le_refl _⟩, fun x hx => (by cases hx), fun a b he ha => absurd (rep a) ha, fun a b he ha => absurd (rep a) ha.1, fun a ha hb => absurd (rep a) hb.1, fun x hx => (by cases hx), fun y hy => (by cases hy)⟩, fun w hw => absurd hw (Nat.not_lt_zero _)⟩
  refine ⟨s.out, Ev.congr (f := fun k => digraph_Components.l0 k g 0 { next := 0, index := List.replicate g.length 0, low := List.replicate g.length 0, out := List.replicate g.length 0, stack := [] }) (fun k => ?_) (hk s.out (Ev.one (fun k => ?_))), hT.lo, fun v hv => hT.lst v hv ⟨hd v hv, fun e => ?_⟩⟩
  · unfold digraph_Components.f
    rw [if_pos (by omega)]
  · simp only [digraph_Components.l0]
    rw [if_neg (by omega)]
  · exact absurd ((hT.on v hv).2 ⟨hd v hv, e⟩) (by simp)
end
end Go.Proofs.Ytplljicodflagaa.Pl
/- Components, as the program finds them; what a bottom component is. -/
namespace Go.Proofs.Ytplljicodflagaa.Pl
open Go.RowKit Go.Proofs.Ytplljicodflagaa.P Go.Proofs.YtplljicodflagaaW.PrintWords Go.Proofs.YtplljicodflagaaW.PrintMore
section
variable {g : List (List Int)}
theorem comp_ev (hf : Few g) : ∃ c, Ev (fun k => digraph_Components.f k g) c ∧ IsComp g c := components_ev (by have := hf.1; omega) (fun u hu => by have := hf.2 u hu; omega) (rdL g)
theorem IsComp.at {c : List Int} (h : IsComp g c) {v : Nat} (hv : v < g.length) : ∃ m : Nat, rd c (v : Int) = (m : Int) ∧ m < g.length ∧ R g v m ∧ R g m v := by
  obtain ⟨m, h1, h2, h3, _⟩ := h.2 v hv
  exact ⟨m, h1, h2.lt.2, h2, h3⟩

end
end Go.Proofs.Ytplljicodflagaa.Pl
/- The reference's table of walks. -/
namespace Go.Proofs.Ytplljicodflagaa.Pl
open Go.RowKit Go.Proofs.Ytplljicodflagaa.P Go.Proofs.YtplljicodflagaaW.PrintWords Go.Proofs.YtplljicodflagaaW.PrintMore
/-! ### a table, read and written -/
def T (t : List (List Bool)) (a b : Nat) : Bool := (t.getD a []).getD b false
theorem T_set (t : List (List Bool)) (u v : Nat) (x : Bool) (hu : u < t.length) (hv : v < (t.getD u []).length) (a b : Nat) : T (t.set u ((t.getD u []).set v x)) a b = if a = u ∧ b = v then x else T t a b := by
  unfold T
  rw [getD_set _ _ _ _ _ hu]
  by_cases e : a = u
  · rw [if_pos e, getD_set _ _ _ _ _ hv]
    subst e
    by_cases e2 : b = v
    · rw [if_pos e2, if_pos ⟨rfl, e2⟩]
    · rw [if_neg e2, if_neg (fun h => e2 h.2)]
  · rw [if_neg e, if_neg (fun h => e h.1)]
theorem T_row (t : List (List Bool)) (u v : Nat) (x : Bool) (n : Nat) (hu : u < t.length) (h : ∀ a, a < n → (t.getD a []).length = n) (a : Nat) (ha : a < n) : ((t.set u ((t.getD u []).set v x)).getD a []).length = n := by
  rw [getD_set _ _ _ _ _ hu]
  by_cases e : a = u
  · rw [if_pos e, List.length_set]; subst e; exact h a ha
  · rw [if_neg e]; exact h a ha

section
variable {g : List (List Int)}
theorem Via.at {K u : Nat} (h : Via g (K + 1) u K) : Via g K u K := (Via.succ.1 h).elim id (fun h => h.1)
theorem Via.from {K v : Nat} (h : Via g (K + 1) K v) : Via g K K v := (Via.succ.1 h).elim id (fun h => h.2)

/-- In round K: rows below u are done, of row u the columns below v. -/
structure PT (g : List (List Int)) (K u v : Nat) (t : List (List Bool)) : Prop where
  len : t.length = g.length
  row : ∀ a, a < g.length → (t.getD a []).length = g.length
  low : ∀ a b, a < g.length → b < g.length → Via g K a b → T t a b = true
  up : ∀ a b, a < g.length → b < g.length → T t a b = true → Via g (K + 1) a b
  done : ∀ a b, a < g.length → b < g.length → (a < u ∨ (a = u ∧ b < v)) → Via g (K + 1) a b → T t a b = true

theorem PT.put {K u v : Nat} {t : List (List Bool)} (h : PT g K u v t) (hK : K < g.length) (hu : u < g.length) (hv : v < g.length) {x : Bool} (hx : x = (T t u v || (T t u K && T t K v))) :
    PT g K u (v + 1) (t.set u ((t.getD u []).set v x)) := by
  obtain ⟨len, row, low, up, done⟩ := h
  have hl := row u hu
  have hT := T_set t u v x (by omega) (by omega)
  have x1 : x = true → Via g (K + 1) u v := fun h => by
    rw [hx] at h
    rcases Bool.or_eq_true _ _ ▸ h with h | h
    · exact up u v hu hv h
    · rw [Bool.and_eq_true] at h
      exact Via.succ.2 (.inr ⟨(up u K hu hK h.1).at, (up K v hK hv h.2).from⟩)
  have x2 : Via g (K + 1) u v → x = true := fun h => by
    rw [hx]
    rcases Via.succ.1 h with h | ⟨h1, h2⟩
    · rw [low u v hu hv h]; rfl
    · rw [low u K hu hK h1, low K v hK hv h2]; simp
  refine ⟨by rw [List.length_set]; exact len, T_row t u v x g.length (by omega) row, fun a b ha hb h => ?_, fun a b ha hb h => ?_, fun a b ha hb hd h => ?_⟩
  · rw [hT]
    split
    · rename_i e; obtain ⟨rfl, rfl⟩ := e; exact x2 h.up
    · exact low a b ha hb h
  · rw [hT] at h
    split at h
    · rename_i e; obtain ⟨rfl, rfl⟩ := e; exact x1 h
    · exact up a b ha hb h
  · rw [hT]
    split
    · rename_i e; obtain ⟨rfl, rfl⟩ := e; exact x2 h
    · rename_i e
      refine done a b ha hb ?_ h
      rcases hd with hd | ⟨h1, h2⟩
      · exact .inl hd
      · exact .inr ⟨h1, by
          have : b ≠ v := fun e2 => e ⟨h1, e2⟩
          omega⟩

theorem paths_cell (hf : Few g) {K u : Nat} (hK : K < g.length) (hu : u < g.length) (v : Nat) (hv : v < g.length) (t : List (List Bool)) (h : PT g K u v t) :
    ∃ t', PT g K u (v + 1) t' ∧ ∀ r, Ev (fun k => r07_Paths.l2 k g t' (K : Int) (u : Int) ((v + 1 : Nat) : Int)) r → Ev (fun k => r07_Paths.l2 k g t (K : Int) (u : Int) (v : Int)) r := by
  have g12 := hf.1
  have hl := h.len
  have hr := h.row u hu
  have hrK := h.row K hK
  by_cases c1 : T t u v = true
  · refine ⟨_, h.put hK hu hv (x := true) (by rw [c1]; rfl), fun r h => Ev.step (fun k => ?_) h⟩
    simp only [r07_Paths.l2]
    rw [if_pos (by omega), if_pos (by omega), if_pos (by omega), if_pos (by omega), rdB, if_pos (by omega), rdOf_nat, if_pos (show (t.getD u []).getD v false = true from c1), wrap_up hv (by omega), Int.toNat_natCast, Int.toNat_natCast]
  · have c1' : T t u v = false := by simpa using c1
    by_cases c2 : T t u K = true
    · refine ⟨_, h.put hK hu hv (x := T t K v) (by rw [c1', c2]; rfl), fun r h => Ev.step (fun k => ?_) h⟩
      simp only [r07_Paths.l2]
      rw [if_pos (by omega), if_pos (by omega), if_pos (by omega), if_pos (by omega), rdB, if_pos (by omega), rdOf_nat, if_neg (show ¬ (t.getD u []).getD v false = true from c1), if_pos (by omega), if_pos (by omega), rdOf_nat, if_pos (show (t.getD u []).getD K false = true from c2), if_pos (by omega), rdB, if_pos (by omega), rdOf_nat, wrap_up hv (by omega), Int.toNat_natCast, Int.toNat_natCast]
      rfl
    · have c2' : T t u K = false := by simpa using c2
      refine ⟨_, h.put hK hu hv (x := false) (by rw [c1', c2']; rfl), fun r h => Ev.step (fun k => ?_) h⟩
      simp only [r07_Paths.l2]
      rw [if_pos (by omega), if_pos (by omega), if_pos (by omega), if_pos (by omega), rdB, if_pos (by omega), rdOf_nat, if_neg (show ¬ (t.getD u []).getD v false = true from c1), if_pos (by omega), if_pos (by omega), rdOf_nat, if_neg (show ¬ (t.getD u []).getD K false = true from c2), wrap_up hv (by omega), Int.toNat_natCast, Int.toNat_natCast]

theorem tab_ev (hf : Few g) : ∃ t, Ev (fun k => r07_Paths.f k g) t ∧ IsTab t g.length (Rp g) := by
  have g12 := hf.1
  obtain ⟨t0, htab, ht⟩ := table_ev g hf
  obtain ⟨t, h, hk⟩ := Ev_for (l := fun k (t : List (List Bool)) K => r07_Paths.l0 k g t K) (n := g.length) (inv := fun K t => t.length = g.length ∧ (∀ a, a < g.length → (t.getD a []).length = g.length) ∧ ∀ a b, a < g.length → b < g.length → (T t a b = true ↔ Via g K a b))
    (fun K t hK ⟨len, row, hT⟩ => by
      obtain ⟨t', h', hk'⟩ := Ev_for (l := fun k (t : List (List Bool)) u => r07_Paths.l1 k g t (K : Int) u) (n := g.length) (inv := fun u t => PT g K u 0 t)
        (fun u t hu h => by
          obtain ⟨t', h', hk'⟩ := Ev_for (l := fun k (t : List (List Bool)) v => r07_Paths.l2 k g t (K : Int) (u : Int) v) (n := g.length) (inv := fun v t => PT g K u v t) (fun v t hv h => paths_cell hf hK hu v hv t h) (Nat.zero_le _) h
          refine ⟨t', ⟨h'.len, h'.row, h'.low, h'.up, fun a b ha hb hd hv => h'.done a b ha hb (hd.elim (fun h => by
            by_cases e : a = u
            · exact .inr ⟨e, hb⟩
            · exact .inl (by omega)) (fun h => absurd h.2 (Nat.not_lt_zero _))) hv⟩, fun r h => Ev.step (f := fun k => r07_Paths.l2 k g t (K : Int) (u : Int) 0) (fun k => ?_) (hk' r (Ev.step (fun k => ?_) h))⟩
          · simp only [r07_Paths.l1]; rw [if_pos (by omega)]
          · simp only [r07_Paths.l2]; rw [if_neg (by omega), wrap_up hu (by omega)])
        (Nat.zero_le _) (s := t) ⟨len, row, fun a b ha hb => (hT a b ha hb).2, fun a b ha hb h => ((hT a b ha hb).1 h).up, fun a b ha hb hd => hd.elim (fun h => absurd h (Nat.not_lt_zero _)) (fun h => absurd h.2 (Nat.not_lt_zero _))⟩
      refine ⟨t', ⟨h'.len, h'.row, fun a b ha hb => ⟨h'.up a b ha hb, fun hv => h'.done a b ha hb (.inl ha) hv⟩⟩, fun r h => Ev.step (f := fun k => r07_Paths.l1 k g t (K : Int) 0) (fun k => ?_) (hk' r (Ev.step (fun k => ?_) h))⟩
      · simp only [r07_Paths.l0]; rw [if_pos (by omega)]
      · simp only [r07_Paths.l1]; rw [if_neg (by omega), wrap_up hK (by omega)])
    (Nat.zero_le _) (s := t0) ⟨ht.1, fun a ha => (ht.2 a ha).1, fun a b ha hb => ((ht.2 a ha).2 b hb).trans Via.zero.symm⟩
  exact ⟨t, Ev.bind htab (hk t (Ev.one (fun k => by simp only [r07_Paths.l0]; rw [if_neg (by omega)]))), h.1, fun u hu => ⟨h.2.1 u hu, fun v hv => (h.2.2 u v hu hv).trans Via.all⟩⟩

end
end Go.Proofs.Ytplljicodflagaa.Pl
/- Components and bottom components, the reference's. -/
namespace Go.Proofs.Ytplljicodflagaa.Pl
open Go.RowKit Go.Proofs.Ytplljicodflagaa.P Go.Proofs.YtplljicodflagaaW.PrintWords Go.Proofs.YtplljicodflagaaW.PrintMore
section
variable {g : List (List Int)}
theorem refcomp_row (hf : Few g) {t : List (List Bool)} (ht : IsTab t g.length (Rp g)) (v : Nat) (hv : v < g.length) (c : List Int) (hcl : c.length = v) :
    ∃ m : Nat, IsL g v (m : Int) ∧ ∀ r, Ev (fun k => r07_Components.l0 k g t (c ++ [(m : Int)]) ((v + 1 : Nat) : Int)) r → Ev (fun k => r07_Components.l0 k g t c (v : Int)) r := by
  have g12 := hf.1
  have htl := ht.1
  obtain ⟨hv1, hv2⟩ := ht.2 v hv
  have fin : ∀ u : Nat, u ≤ v → IsL g v (u : Int) → (∀ r, Ev (fun k => r07_Components.l0 k g t (c ++ [(u : Int)]) ((v + 1 : Nat) : Int)) r → Ev (fun k => r07_Components.l1 k g t c (v : Int) (u : Int)) r) → (∀ r, Ev (fun k => r07_Components.l1 k g t c (v : Int) (u : Int)) r → Ev (fun k => r07_Components.l1 k g t c (v : Int) 0) r) → ∃ m : Nat, IsL g v (m : Int) ∧ ∀ r, Ev (fun k => r07_Components.l0 k g t (c ++ [(m : Int)]) ((v + 1 : Nat) : Int)) r → Ev (fun k => r07_Components.l0 k g t c (v : Int)) r := fun u _ hL h1 h2 => ⟨u, hL, fun r h => Ev.step (fun k => by
    simp only [r07_Components.l0]
    rw [if_pos (by omega)]) (h2 r (h1 r h))⟩
  have skip : ∀ u : Nat, u < v → ¬ (Rp g u v ∧ Rp g v u) → ∀ r, Ev (fun k => r07_Components.l1 k g t c (v : Int) ((u + 1 : Nat) : Int)) r → Ev (fun k => r07_Components.l1 k g t c (v : Int) (u : Int)) r := fun u hu hn r h => Ev.step (fun k => by
    obtain ⟨hu1, hu2⟩ := ht.2 u (by omega)
    simp only [r07_Components.l1]
    rw [if_pos (by omega), if_pos (by omega), if_pos (by omega), if_pos (by omega), rdB, rdB, if_pos (by omega), rdOf_nat, rdOf_nat]
    by_cases e1 : (t.getD u []).getD v false = true
    · rw [if_pos e1, if_pos (by omega), if_pos (by omega), if_neg (fun e2 => hn ⟨(hu2 v hv).1 e1, (hv2 u (by omega)).1 e2⟩), wrap_up hu (by omega)]
    · rw [if_neg e1, wrap_up hu (by omega)]) h
  have last : ∀ u : Nat, u < v → Rp g u v ∧ Rp g v u → ∀ r, Ev (fun k => r07_Components.l0 k g t (c ++ [(u : Int)]) ((v + 1 : Nat) : Int)) r → Ev (fun k => r07_Components.l1 k g t c (v : Int) (u : Int)) r := fun u hu hn r h => Ev.step (fun k => by
    obtain ⟨hu1, hu2⟩ := ht.2 u (by omega)
    simp only [r07_Components.l1]
    rw [if_pos (by omega), if_pos (by omega), if_pos (by omega), if_pos (by omega), rdB, rdB, if_pos (by omega), rdOf_nat, rdOf_nat, if_pos ((hu2 v hv).2 hn.1), if_pos (by omega), if_pos (by omega), if_pos ((hv2 u (by omega)).2 hn.2), if_pos (by omega), wrap_up hv (by omega)]) h
  rcases least_or (fun u => Rp g u v ∧ Rp g v u) v with ⟨u, hu, h1, h2⟩ | hno
  · obtain ⟨_, _, hk⟩ := Ev_for (l := fun k (_ : Unit) i => r07_Components.l1 k g t c (v : Int) i) (n := u) (inv := fun _ _ => True) (fun i _ hi _ => ⟨(), trivial, skip i (by omega) (h2 i hi)⟩) (Nat.zero_le _) (s := ()) trivial
    refine fin u (by omega) ⟨u, rfl, h1.2.toR, h1.1.toR, fun w w1 w2 => ?_⟩ (last u hu h1) hk
    refine Nat.le_of_not_lt fun hlt => h2 w hlt ⟨?_, ?_⟩
    · exact (R_iff.1 w2).elim (fun h => by omega) id
    · exact (R_iff.1 w1).elim (fun h => by omega) id
  · obtain ⟨_, _, hk⟩ := Ev_for (l := fun k (_ : Unit) i => r07_Components.l1 k g t c (v : Int) i) (n := v) (inv := fun _ _ => True) (fun i _ hi _ => ⟨(), trivial, skip i (by omega) (hno i hi)⟩) (Nat.zero_le _) (s := ()) trivial
    refine fin v (Nat.le_refl _) ⟨v, rfl, R.refl hv, R.refl hv, fun w w1 w2 => ?_⟩ (fun r h => Ev.step (fun k => ?_) h) hk
    · refine Nat.le_of_not_lt fun hlt => hno w hlt ⟨?_, ?_⟩
      · exact (R_iff.1 w2).elim (fun h => by omega) id
      · exact (R_iff.1 w1).elim (fun h => by omega) id
    · simp only [r07_Components.l1]
      rw [if_neg (by omega), if_pos (by omega), wrap_up hv (by omega)]
theorem refcomp_ev (hf : Few g) : ∃ c, Ev (fun k => r07_Components.f k g) c ∧ IsComp g c := by
  have g12 := hf.1
  obtain ⟨t, htab, ht⟩ := tab_ev hf
  obtain ⟨c, ⟨hcl, hc⟩, hk⟩ := Ev_for (l := fun k (c : List Int) v => r07_Components.l0 k g t c v) (n := g.length) (inv := fun v c => c.length = v ∧ ∀ u, u < v → IsL g u (rd c (u : Int)))
    (fun v c hv ⟨hcl, hc⟩ => by
      obtain ⟨m, hm, hk⟩ := refcomp_row hf ht v hv c hcl
      refine ⟨_, ⟨by simp [hcl], fun u hu => ?_⟩, hk⟩
      rw [rd_app _ _ _ (by omega)]
      by_cases e : u = v
      · subst e; rw [if_pos (by omega)]; exact hm
      · rw [if_neg (by omega)]; exact hc u (by omega))
    (Nat.zero_le _) (s := []) ⟨rfl, fun u hu => absurd hu (Nat.not_lt_zero _)⟩
  exact ⟨c, Ev.bind htab (hk c (Ev.one (fun k => by simp only [r07_Components.l0]; rw [if_neg (by omega)]))), hcl, hc⟩
end
end Go.Proofs.Ytplljicodflagaa.Pl
/- Whether the flow graph is connected, strongly connected: by both texts. -/
namespace Go.Proofs.Ytplljicodflagaa.Pl
set_option linter.unusedVariables false
open Go.RowKit Go.Proofs.Ytplljicodflagaa.P Go.Proofs.YtplljicodflagaaW.PrintWords Go.Proofs.YtplljicodflagaaW.PrintMore

/-- One strongly connected component. -/
def oneP (g : List (List Int)) : Prop := 0 < g.length ∧ ∀ v, v < g.length → R g v 0 ∧ R g 0 v
theorem isL_zero {g : List (List Int)} {v : Nat} {x : Int} (h : IsL g v x) (hg : 0 < g.length) : x = 0 ↔ R g v 0 ∧ R g 0 v := by
  obtain ⟨m, rfl, h1, h2, h3⟩ := h
  constructor
  · intro e
    obtain rfl : m = 0 := by omega
    exact ⟨h1, h2⟩
  · rintro ⟨a, b⟩
    have := h3 0 a b
    omega
open Classical in
theorem one_ev {g : List (List Int)} (hf : Few g) : Ev (fun k => r13_one.f k g) (decide (oneP g)) := by
  have hl := hf.1
  obtain ⟨c, h1, h2⟩ := refcomp_ev hf
  unfold r13_one.f
  refine Ev.bind h1 ?_
  have hcl := h2.1
  refine Ev_ex (L := fun k i => r13_one.l0 k c (i : Int)) (n := c.length) (fun i => rd c (i : Int) ≠ 0) (a := false) (e := decide (0 < c.length)) (fun i hi hc => Ev.one fun k => ?_) (fun i hi hc r hr => Ev.step (fun k => ?_) hr) (fun _ => Ev.one fun k => ?_) ?_ ?_
  · simp only [r13_one.l0]
    rw [if_pos (by omega), if_pos (by omega), if_neg hc]
  · simp only [r13_one.l0]
    rw [if_pos (by omega), if_pos (by omega), if_pos (Classical.not_not.1 hc), wrap_up hi (by omega)]
  · simp only [r13_one.l0]
    rw [if_neg (by omega)]
    congr 1
    rw [decide_eq_decide]; omega
  · rintro ⟨j, hj, hne⟩
    refine decide_eq_false fun ho => hne ?_
    exact (isL_zero (h2.2 j (by omega)) ho.1).2 (ho.2 j (by omega))
  · intro hall
    rw [decide_eq_decide, hcl]
    constructor
    · intro h; exact h.1
    · intro h
      exact ⟨h, fun v hv => (isL_zero (h2.2 v hv) h).1 (Classical.not_not.1 (hall v (by omega)))⟩
theorem oneP_sym {g : List (List Int)} (hs : ∀ u v, Ed g u v → Ed g v u) : oneP g ↔ 0 < g.length ∧ ∀ v, v < g.length → R g 0 v :=
  ⟨fun h => ⟨h.1, fun v hv => (h.2 v hv).2⟩, fun h => ⟨h.1, fun v hv => ⟨R_sym hs (h.2 v hv), h.2 v hv⟩⟩⟩
theorem oneP_cong {g h : List (List Int)} (hl : g.length = h.length) (he : ∀ u v, Ed g u v ↔ Ed h u v) : oneP g ↔ oneP h := by
  unfold oneP
  rw [hl]
  exact ⟨fun x => ⟨x.1, fun v hv => ⟨R_cong hl (fun a b => (he a b).1) (x.2 v hv).1, R_cong hl (fun a b => (he a b).1) (x.2 v hv).2⟩⟩, fun x => ⟨x.1, fun v hv => ⟨R_cong hl.symm (fun a b => (he a b).2) (x.2 v hv).1, R_cong hl.symm (fun a b => (he a b).2) (x.2 v hv).2⟩⟩⟩
theorem oneP_nil : ¬ oneP [] := fun h => absurd h.1 (by simp)
open Classical in
noncomputable def connS (v : Bool) (ps : List Pla) (ts : List Tra) : Bool := decide (oneP (bothR (flowS v ps ts)))
open Classical in
noncomputable def strongS (v : Bool) (ps : List Pla) (ts : List Tra) : Bool := decide (oneP (flowS v ps ts))
theorem few_nil : Few [] := ⟨by simp, fun u hu => absurd hu (by simp)⟩
theorem bothR_nil : bothR [] = [] := rfl
theorem refconn_ev (nm : ByteArray) {ps : List Pla} {ts : List Tra} (hT : Thin ts) : Ev (fun k => r13_Connected.f k nm ps ts) (connS (validS nm ps ts) ps ts) := by
  unfold r13_Connected.f
  refine Ev.bind (refflow_ev nm hT) ?_
  by_cases hv : validS nm ps ts = true
  · rw [hv]
    obtain ⟨h1, h2⟩ := flow_few (validS_iff.1 hv)
    refine Ev.bind (refboth_ev ⟨h1, fun u hu => Nat.le_trans (h2 u hu) (by decide)⟩) ?_
    exact Ev.bind (one_ev (both_few h1 h2).2) (Ev.some _)
  · rw [Bool.eq_false_iff.2 hv]
    have e : flowS false ps ts = [] := rfl
    unfold connS
    rw [e]
    refine Ev.bind (refboth_ev few_nil) ?_
    exact Ev.bind (one_ev (by rw [bothR_nil]; exact few_nil)) (Ev.some _)
theorem refstrong_ev (nm : ByteArray) {ps : List Pla} {ts : List Tra} (hT : Thin ts) : Ev (fun k => r13_Strong.f k nm ps ts) (strongS (validS nm ps ts) ps ts) := by
  unfold r13_Strong.f
  refine Ev.bind (refflow_ev nm hT) ?_
  by_cases hv : validS nm ps ts = true
  · rw [hv]
    obtain ⟨h1, h2⟩ := flow_few (validS_iff.1 hv)
    exact Ev.bind (one_ev ⟨h1, fun u hu => Nat.le_trans (h2 u hu) (by decide)⟩) (Ev.some _)
  · rw [Bool.eq_false_iff.2 hv]
    exact Ev.bind (one_ev few_nil) (Ev.some _)
theorem from_one {g : List (List Int)} {v : Nat} : From g [0] ([0] : List Int).length v ↔ R g 0 v := by
  constructor
  · rintro ⟨j, s, hj, h1, h2⟩
    simp at hj
    subst hj
    have : s = 0 := by
      have e : rd [0] ((0 : Nat) : Int) = 0 := rfl
      rw [e] at h1; omega
    rw [← this]; exact h2
  · intro h
    exact ⟨0, 0, by simp, rfl, h⟩
theorem conn_ev (nm : ByteArray) {ps : List Pla} {ts : List Tra} (hT : Thin ts) : Ev (fun k => netclass_Connected.f k nm ps ts) (connS (validS nm ps ts) ps ts) := by
  unfold netclass_Connected.f
  refine Ev.bind (nvalid_ev nm hT) ?_
  by_cases hv : validS nm ps ts = true
  · simp only [hv, ↓reduceIte]
    have V := validS_iff.1 hv
    have hp := V.p0
    obtain ⟨h1, h2⟩ := flow_few V
    have hf := flow_ev nm (ps := ps) hT
    rw [hv] at hf
    refine Ev.bind hf ?_
    refine Ev.bind (both_ev ⟨h1, fun u hu => Nat.le_trans (h2 u hu) (by decide)⟩) ?_
    obtain ⟨out, e1, e2, e3⟩ := reach_ev (both_few h1 h2).1 [0] (by simp)
    refine Ev.bind e1 ?_
    have hbl : (bothP (flowS true ps ts)).length = (flowS true ps ts).length := mr_len _ _
    have hfl := flow_len (v := true) (ps := ps) (ts := ts) rfl
    have key : oneP (bothR (flowS true ps ts)) ↔ ∀ v, v < out.length → out.getD v false = true := by
      rw [← oneP_cong (g := bothP (flowS true ps ts)) (h := bothR (flowS true ps ts)) ((mr_len _ _).trans (mr_len _ _).symm) (fun u v => edP.trans edR.symm), oneP_sym (fun u v h => edP.2 (Or.comm.1 (edP.1 h))), e2]
      constructor
      · intro h v hv
        exact (e3 v hv).2 (from_one.2 (h.2 v hv))
      · intro h
        exact ⟨by omega, fun v hv => from_one.1 ((e3 v hv).1 (h v hv))⟩
    refine Ev_ex (L := fun k i => netclass_Connected.l0 k out (out.length : Int) (i : Int)) (n := out.length) (fun i => out.getD i false ≠ true) (a := false) (e := true) (fun i hi hc => Ev.one fun k => ?_) (fun i hi hc r hr => Ev.step (fun k => ?_) hr) (fun _ => Ev.one fun k => ?_) ?_ ?_
    · simp only [netclass_Connected.l0]
      rw [if_pos (by omega), if_pos (by omega), if_pos (by omega), rdOf_nat, if_neg hc]
    · simp only [netclass_Connected.l0]
      rw [if_pos (by omega), if_pos (by omega), if_pos (by omega), rdOf_nat, if_pos (Classical.not_not.1 hc), wrap_up hi (by omega)]
    · simp only [netclass_Connected.l0]
      rw [if_neg (by omega)]
    · rintro ⟨j, hj, hne⟩
      unfold connS; refine dec_f ?_; exact fun ho => hne (key.1 ho j hj)
    · intro hall
      unfold connS; refine dec_t ?_; exact key.2 fun v hv => Classical.not_not.1 (hall v hv)
  · rw [Bool.eq_false_iff.2 hv]
    have e : connS false ps ts = false := by unfold connS; refine dec_f ?_; rw [show flowS false ps ts = [] from rfl, bothR_nil]; exact oneP_nil
    rw [e]
    exact Ev.some _
theorem strong_ev (nm : ByteArray) {ps : List Pla} {ts : List Tra} (hT : Thin ts) : Ev (fun k => netclass_Strong.f k nm ps ts) (strongS (validS nm ps ts) ps ts) := by
  unfold netclass_Strong.f
  refine Ev.bind (nvalid_ev nm hT) ?_
  by_cases hv : validS nm ps ts = true
  · simp only [hv, ↓reduceIte]
    have V := validS_iff.1 hv
    have hp := V.p0
    obtain ⟨h1, h2⟩ := flow_few V
    have hf := flow_ev nm (ps := ps) hT
    rw [hv] at hf
    refine Ev.bind hf ?_
    obtain ⟨c, e1, e2, e3⟩ := comp_ev (g := flowS true ps ts) ⟨h1, fun u hu => Nat.le_trans (h2 u hu) (by decide)⟩
    refine Ev.bind e1 ?_
    have hfl := flow_len (v := true) (ps := ps) (ts := ts) rfl
    refine Ev_ex (L := fun k i => netclass_Strong.l0 k c (c.length : Int) (i : Int)) (n := c.length) (fun i => rd c (i : Int) ≠ 0) (a := false) (e := true) (fun i hi hc => Ev.one fun k => ?_) (fun i hi hc r hr => Ev.step (fun k => ?_) hr) (fun _ => Ev.one fun k => ?_) ?_ ?_
    · simp only [netclass_Strong.l0]
      rw [if_pos (by omega), if_pos (by omega), if_pos (by omega), if_neg hc]
    · simp only [netclass_Strong.l0]
      rw [if_pos (by omega), if_pos (by omega), if_pos (by omega), if_pos (Classical.not_not.1 hc), wrap_up hi (by omega)]
    · simp only [netclass_Strong.l0]
      rw [if_neg (by omega)]
    · rintro ⟨j, hj, hne⟩
      unfold strongS; refine dec_f ?_; exact fun ho => hne ((isL_zero (e3 j (by omega)) ho.1).2 (ho.2 j (by omega)))
    · intro hall
      unfold strongS; refine dec_t ?_; exact ⟨by omega, fun v hv => (isL_zero (e3 v hv) (by omega)).1 (Classical.not_not.1 (hall v (by omega)))⟩
  · rw [Bool.eq_false_iff.2 hv]
    have e : strongS false ps ts = false := by unfold strongS; refine dec_f ?_; rw [show flowS false ps ts = [] from rfl]; exact oneP_nil
    rw [e]
    exact Ev.some _
end Go.Proofs.Ytplljicodflagaa.Pl
namespace Go.Proofs.Ytplljicodflagaa.Pure
open Go.RowKit Go.Proofs.Ytplljicodflagaa.P Go.Proofs.Ytplljicodflagaa.Pl Go.Proofs.YtplljicodflagaaW.PrintWords Go.Proofs.YtplljicodflagaaW.PrintMore
theorem strsame_ev (a : List ByteArray) (ha : a.length ≤ 1000000000) : Ev (fun k => r48_Same.f k a a) true := by
  unfold r48_Same.f
  refine Ev.congr (fun k => if_pos rfl) ?_
  exact Ev_up (L := fun k i => r48_Same.l0 k a a (i : Int)) (n := a.length) (fun i hi hr => Ev.step (fun k => by
    simp only [r48_Same.l0]
    rw [if_pos (by omega), if_pos (by omega), if_pos (by omega), wrap_up hi (by omega), if_pos trivial]) hr) (Ev.one (fun k => by simp only [r48_Same.l0]; rw [if_neg (by omega)]))
def pick : List ByteArray → List Bool → List ByteArray
  | s :: ss, b :: bs => if b = true then s :: pick ss bs else pick ss bs
  | _, _ => []
theorem pick_cons (s : ByteArray) (ss : List ByteArray) (b : Bool) (bs : List Bool) : pick (s :: ss) (b :: bs) = (if b = true then [s] else []) ++ pick ss bs := by
  cases b <;> rfl
theorem pick_nil : pick [] [] = [] := rfl
theorem pick_len : ∀ (a : List ByteArray) (b : List Bool), (pick a b).length ≤ a.length
  | [], b => by unfold pick; simp
  | s :: ss, [] => by unfold pick; simp
  | s :: ss, b :: bs => by
    have := pick_len ss bs
    rw [pick_cons]
    cases b <;> simp <;> omega
theorem wordIf_app (s : ByteArray) (b : Bool) (ns : List ByteArray) : wordIf s b ns = ns ++ (if b = true then [s] else []) := by
  unfold wordIf; cases b <;> simp
def words9 : List ByteArray := [(⟨#[112, 108, 97, 105, 110]⟩ : ByteArray), (⟨#[111, 114, 100, 105, 110, 97, 114, 121]⟩ : ByteArray), (⟨#[112, 117, 114, 101]⟩ : ByteArray), (⟨#[99, 111, 110, 110, 101, 99, 116, 101, 100]⟩ : ByteArray), (⟨#[115, 116, 114, 111, 110, 103]⟩ : ByteArray), (⟨#[115, 116, 97, 116, 101, 109, 97, 99, 104, 105, 110, 101]⟩ : ByteArray), (⟨#[109, 97, 114, 107, 101, 100, 103, 114, 97, 112, 104]⟩ : ByteArray), (⟨#[102, 114, 101, 101, 99, 104, 111, 105, 99, 101]⟩ : ByteArray), (⟨#[97, 115, 121, 109, 109, 101, 116, 114, 105, 99]⟩ : ByteArray)]
theorem wl0 (x3 : List ByteArray) (x4 : List Bool) (hl : x3.length = x4.length) (hm : x3.length ≤ 1000) : ∀ (d i : Nat) (acc : List ByteArray), x3.length - i = d → i ≤ x3.length → acc.length ≤ i → Ev (fun k => r13_Words.l0 k x3 x4 acc (i : Int)) (acc ++ pick (x3.drop i) (x4.drop i)) := by
  intro d
  induction d with
  | zero =>
    intro i acc hd hi ha
    obtain rfl : i = x3.length := by omega
    refine Ev.one fun k => ?_
    simp only [r13_Words.l0]
    rw [if_neg (by omega), List.drop_length, show pick [] (x4.drop x3.length) = [] by rw [pick]; intros; contradiction, List.append_nil]
  | succ d ih =>
    intro i acc hd hi ha
    have hi' : i < x3.length := by omega
    rw [List.drop_eq_getElem_cons hi', List.drop_eq_getElem_cons (show i < x4.length by omega)]
    have e3 : rdOf ByteArray.empty x3 (i : Int) = x3[i] := by rw [rdOf_nat, List.getD_eq_getElem?_getD, List.getElem?_eq_getElem hi']; rfl
    have e4 : rdOf false x4 (i : Int) = x4[i]'(by omega) := by rw [rdOf_nat, List.getD_eq_getElem?_getD, List.getElem?_eq_getElem (by omega)]; rfl
    unfold pick
    by_cases c : x4[i]'(by omega) = true
    · rw [if_pos c]
      have := ih (i + 1) (acc ++ [x3[i]]) (by omega) (by omega) (by simp; omega)
      rw [List.append_assoc] at this
      refine Ev.step (fun k => ?_) this
      simp only [r13_Words.l0]
      rw [if_pos (by omega), if_pos (by omega), if_pos (by omega), e4, if_pos c, if_pos (by omega), e3, wrap_up hi' (by omega)]
    · rw [if_neg c]
      refine Ev.step (fun k => ?_) (ih (i + 1) acc (by omega) (by omega) (by omega))
      simp only [r13_Words.l0]
      rw [if_pos (by omega), if_pos (by omega), if_pos (by omega), e4, if_neg c, wrap_up hi' (by omega)]
theorem NetclassWords (nm : ByteArray) (ps : List Pla) (ts : List Tra) {w : Prop} (_h : w) : ∃ k, petrinetlaw13_NetclassWords.f k nm ps ts = some true := by
  refine Ev.rounds (g := fun k => petrinetlaw13_NetclassWords.f k nm ps ts) ?_
  unfold petrinetlaw13_NetclassWords.f
  refine Ev.bind (small_ev nm ps ts) ?_
  cases hs : smallS nm ps ts with
  | false =>
    simp only [smallR, Bool.false_eq_true, ↓reduceIte]
    exact alive'
  | true =>
    have hS := smallS_true hs
    have hT := hS.thin
    have hp : ps.length ≤ 1000000 := Nat.le_trans hS.p (by decide)
    have ht : ts.length ≤ 1000000 := Nat.le_trans hS.t (by decide)
    simp only [smallR, ↓reduceIte]
    have both : ∃ l : List ByteArray, Ev (fun k => netclass_Words.f k nm ps ts) l ∧ Ev (fun k => r13_Words.f k nm ps ts) l ∧ l.length ≤ 1000 := by
      have h1 := nvalid_ev nm (ps := ps) hT
      have h2 := refvalid_ev nm (ps := ps) hT
      unfold netclass_Words.f r13_Words.f
      cases hv : validS nm ps ts with
      | false =>
        rw [hv] at h1 h2
        exact ⟨[], Ev.bind h1 (Ev.some _), Ev.bind h2 (Ev.some _), by simp⟩
      | true =>
        have po := plain_ev nm hp ht hT
        have rpo := refplain_ev nm hp ht hT
        have oo := ordinary_ev nm (ps := ps) hT
        have roo := refordinary_ev nm (ps := ps) ht hT
        rw [hv] at h1 h2
        refine ⟨pick words9 [plainS (validS nm ps ts) ps ts, ordinaryS (validS nm ps ts) ts, pureS (validS nm ps ts) ts, connS (validS nm ps ts) ps ts, strongS (validS nm ps ts) ps ts, stmS (basicS (validS nm ps ts) ps ts) ts, mgS (basicS (validS nm ps ts) ps ts) ps ts, freeS (basicS (validS nm ps ts) ps ts) ps ts, asymS (basicS (validS nm ps ts) ps ts) ps ts], Ev.bind h1 ?_, Ev.bind h2 ?_, Nat.le_trans (pick_len _ _) (show 9 ≤ 1000 by decide)⟩
        · simp only [↓reduceIte]
          refine Ev.bind po (Ev.bind oo (Ev.bind (pure_ev hp ht hT) (Ev.bind (conn_ev nm hT) (Ev.bind (strong_ev nm hT) (Ev.bind (sm_ev hp ht hT) (Ev.bind (mg_ev hp ht hT) (Ev.bind (free_ev hp ht hT) (Ev.bind (asym_ev hp ht hT) ?_))))))))
          refine Ev.congr (fun k => congrArg some ?_) (Ev.some _)
          simp only [words9, wordIf_app, pick_cons, pick_nil, List.append_assoc, List.nil_append, List.append_nil]
        · simp only [↓reduceIte]
          refine Ev.bind rpo (Ev.bind roo (Ev.bind (refpure_ev hp ht hT) (Ev.bind (refconn_ev nm hT) (Ev.bind (refstrong_ev nm hT) (Ev.bind (refsm_ev hp ht hT) (Ev.bind (refmg_ev hp ht hT) (Ev.bind (reffree_ev hp ht hT) (Ev.bind (refasym_ev hp ht hT) ?_))))))))
          exact wl0 words9 _ rfl (show 9 ≤ 1000 by decide) 9 0 [] rfl (Nat.zero_le _) (by simp)
    obtain ⟨c, h1, h2, h3⟩ := both
    refine Ev.bind h1 (Ev.bind h2 ?_)
    refine Ev.bind (strsame_ev c (Nat.le_trans h3 (by decide))) ?_
    simp only [↓reduceIte]
    exact alive'
end Go.Proofs.Ytplljicodflagaa.Pure
