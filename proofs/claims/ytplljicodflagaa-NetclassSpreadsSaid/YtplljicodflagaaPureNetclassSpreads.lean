/- The plain law of NetclassSpreads: for every net the law's function answers true, with rounds enough. -/
-- MERGED: the plain texts that it needs, in one
import Derived.Test.YtplljicodflagaaPx18
import Derived.Test.YtplljicodflagaaPx4
import Derived.Test.YtplljicodflagaaVAll
import Derived.Test.YtplljicodflagaaPx1
import Derived.Test.YtplljicodflagaaPx2
import Derived.Test.YtplljicodflagaaPx3
import Derived.Laws.Strings
import Derived.WideShapes
import Derived.Test.YtplljicodflagaaPx6
import Derived.Test.YtplljicodflagaaPx7
import Derived.Test.YtplljicodflagaaPx16
import Derived.Test.YtplljicodflagaaPx5
import Derived.Test.YtplljicodflagaaPx0
/- Plain lemmas: loops that count, lists read and written by whole numbers. -/
namespace Go.Proofs.Ytplljicodflagaa.Pl
open Go.RowKit Go.Proofs.YtplljicodflagaaW.PrintWords Go.Proofs.YtplljicodflagaaW.PrintMore

theorem wrap_ok {x : Int} (h0 : -9223372036854775808 ≤ x) (h1 : x ≤ 9223372036854775807) : wrap64 x = x := by unfold wrap64; omega
theorem wrap_up {i n : Nat} (h : i < n) (hn : n ≤ 9223372036854775807) : wrap64 ((i : Int) + 1) = ((i + 1 : Nat) : Int) := by rw [wrap_ok (by omega) (by omega)]; omega

theorem Ev.uniq {α : Type} {g : Nat → Option α} {a b : α} (h : Ev g a) (k : Ev g b) : a = b := by
  obtain ⟨K, h⟩ := h
  obtain ⟨L, k⟩ := k
  have h1 := h (max K L) (Nat.le_max_left _ _)
  rw [k (max K L) (Nat.le_max_right _ _)] at h1
  exact (Option.some.inj h1).symm
theorem Ev.some {α : Type} (r : α) : Ev (fun _ => Option.some r) r := ⟨0, fun _ _ => rfl⟩
theorem Ev.one {α : Type} {g : Nat → Option α} {r : α} (h : ∀ k, g (k + 1) = Option.some r) : Ev g r := Ev.step h (Ev.some r)


/-- A loop that counts up to n and may end before: at each place it goes on, or ends with what is told. -/
theorem Ev_scan {ρ : Type} {l : Nat → Int → Option ρ} {n : Nat} {bad : Nat → Prop} {rb : ρ}
    (go : ∀ i : Nat, i < n → ¬ bad i → ∀ r, Ev (fun k => l k ((i + 1 : Nat) : Int)) r → Ev (fun k => l k (i : Int)) r)
    (stop : ∀ i : Nat, i < n → bad i → Ev (fun k => l k (i : Int)) rb) {i : Nat} (hi : i ≤ n) :
    (∃ j, i ≤ j ∧ j < n ∧ bad j ∧ (∀ m, i ≤ m → m < j → ¬ bad m) ∧ Ev (fun k => l k (i : Int)) rb) ∨ ((∀ j, i ≤ j → j < n → ¬ bad j) ∧ ∀ r, Ev (fun k => l k (n : Int)) r → Ev (fun k => l k (i : Int)) r) := by
  obtain ⟨d, hd⟩ : ∃ d, n - i = d := ⟨_, rfl⟩
  induction d generalizing i with
  | zero =>
    have : i = n := by omega
    subst this
    exact .inr ⟨fun j h1 h2 => by omega, fun r h => h⟩
  | succ d ih =>
    by_cases hb : bad i
    · exact .inl ⟨i, Nat.le_refl _, by omega, hb, fun m h1 h2 => by omega, stop i (by omega) hb⟩
    · rcases ih (i := i + 1) (by omega) (by omega) with ⟨j, h1, h2, h3, h4, h5⟩ | ⟨h1, h2⟩
      · refine .inl ⟨j, by omega, h2, h3, fun m m1 m2 => ?_, go i (by omega) hb _ h5⟩
        by_cases hm : m = i
        · subst hm; exact hb
        · exact h4 m (by omega) m2
      · refine .inr ⟨fun j j1 j2 => ?_, fun r h => go i (by omega) hb r (h2 r h)⟩
        by_cases hm : j = i
        · subst hm; exact hb
        · exact h1 j (by omega) j2


section
variable {α : Type}
theorem rd_nat (xs : List Int) (i : Nat) : rd xs (i : Int) = xs.getD i 0 := by simp [rd]
theorem rdOf_nat (d : α) (xs : List α) (i : Nat) : rdOf d xs (i : Int) = xs.getD i d := by simp [rdOf]
theorem getD_set (xs : List α) (i j : Nat) (x d : α) (h : i < xs.length) : (xs.set i x).getD j d = if j = i then x else xs.getD j d := by
  simp only [List.getD_eq_getElem?_getD, List.getElem?_set]
  by_cases e : i = j
  · subst e; simp [h]
  · simp [e, Ne.symm e]
theorem rdOf_set (d : α) (xs : List α) (i j : Int) (x : α) (h0 : 0 ≤ i) (h1 : i < xs.length) (j0 : 0 ≤ j) : rdOf d (xs.set i.toNat x) j = if j = i then x else rdOf d xs j := by
  unfold rdOf
  rw [getD_set _ _ _ _ _ (by omega)]
  by_cases e : j = i
  · subst e; simp
  · rw [if_neg e, if_neg (by omega)]
theorem rd_set (xs : List Int) (i j x : Int) (h0 : 0 ≤ i) (h1 : i < xs.length) (j0 : 0 ≤ j) : rd (xs.set i.toNat x) j = if j = i then x else rd xs j := rdOf_set (0 : Int) xs i j x h0 h1 j0
theorem rd_mem {xs : List Int} {i : Int} (h0 : 0 ≤ i) (h1 : i < xs.length) : rd xs i ∈ xs := by
  unfold rd
  rw [List.getD_eq_getElem?_getD, List.getElem?_eq_getElem (show i.toNat < xs.length by omega)]
  exact List.getElem_mem _
theorem mem_rd {xs : List Int} {x : Int} (h : x ∈ xs) : ∃ i : Nat, i < xs.length ∧ rd xs (i : Int) = x := by
  obtain ⟨i, hi, he⟩ := List.getElem_of_mem h
  exact ⟨i, hi, by rw [rd_nat, List.getD_eq_getElem?_getD, List.getElem?_eq_getElem hi]; exact he⟩
theorem ext_rd {a b : List Int} (hl : a.length = b.length) (h : ∀ i : Nat, i < a.length → rd a (i : Int) = rd b (i : Int)) : a = b := by
  refine List.ext_getElem hl (fun i h1 h2 => ?_)
  have := h i h1
  rw [rd_nat, rd_nat, List.getD_eq_getElem?_getD, List.getD_eq_getElem?_getD, List.getElem?_eq_getElem h1, List.getElem?_eq_getElem h2] at this
  exact this
theorem ext_rdOf (d : α) {a b : List α} (hl : a.length = b.length) (h : ∀ i : Nat, i < a.length → rdOf d a (i : Int) = rdOf d b (i : Int)) : a = b := by
  refine List.ext_getElem hl (fun i h1 h2 => ?_)
  have := h i h1
  rw [rdOf_nat, rdOf_nat, List.getD_eq_getElem?_getD, List.getD_eq_getElem?_getD, List.getElem?_eq_getElem h1, List.getElem?_eq_getElem h2] at this
  exact this
end
end Go.Proofs.Ytplljicodflagaa.Pl
/- Plain lemmas: loops that count through a list, the first place that ends them. -/
namespace Go.Proofs.Ytplljicodflagaa.Pl
open Go.RowKit Go.Proofs.YtplljicodflagaaW.PrintWords Go.Proofs.YtplljicodflagaaW.PrintMore

/-- The first answer of p from place i on, through d places; e if there is none. -/
def firstOr {ρ : Type} (p : Nat → Option ρ) (e : ρ) : Nat → Nat → ρ
  | _, 0 => e
  | i, d + 1 => match p i with | some r => r | none => firstOr p e (i + 1) d
theorem firstOr_cases {ρ : Type} (p : Nat → Option ρ) (e : ρ) : ∀ (d i : Nat), (firstOr p e i d = e ∧ ∀ j, i ≤ j → j < i + d → p j = none) ∨ ∃ j, i ≤ j ∧ j < i + d ∧ p j = some (firstOr p e i d) ∧ ∀ m, i ≤ m → m < j → p m = none
  | 0, i => .inl ⟨rfl, fun j h1 h2 => by omega⟩
  | d + 1, i => by
    unfold firstOr
    cases h : p i with
    | some r => exact .inr ⟨i, Nat.le_refl _, by omega, h, fun m h1 h2 => by omega⟩
    | none =>
      rcases firstOr_cases p e d (i + 1) with ⟨h1, h2⟩ | ⟨j, h1, h2, h3, h4⟩
      · refine .inl ⟨h1, fun j j1 j2 => ?_⟩
        by_cases hj : j = i
        · rw [hj]; exact h
        · exact h2 j (by omega) (by omega)
      · refine .inr ⟨j, by omega, by omega, h3, fun m m1 m2 => ?_⟩
        by_cases hm : m = i
        · rw [hm]; exact h
        · exact h4 m (by omega) m2
theorem firstOr_all {ρ : Type} {p : Nat → Option ρ} {e : ρ} : ∀ {d i : Nat}, (∀ j, i ≤ j → j < i + d → p j = none) → firstOr p e i d = e
  | 0, _, _ => rfl
  | d + 1, i, h => by
    unfold firstOr
    rw [h i (Nat.le_refl _) (by omega)]
    exact firstOr_all (fun j h1 h2 => h j (by omega) (by omega))
theorem firstOr_at {ρ : Type} {p : Nat → Option ρ} {e r : ρ} : ∀ {d i : Nat} (j : Nat), i ≤ j → j < i + d → p j = some r → (∀ m, i ≤ m → m < j → p m = none) → firstOr p e i d = r
  | 0, _, _, h1, h2, _, _ => by omega
  | d + 1, i, j, h1, h2, h3, h4 => by
    unfold firstOr
    by_cases hj : j = i
    · subst hj; rw [h3]
    · rw [h4 i (Nat.le_refl _) (by omega)]
      exact firstOr_at j (by omega) (by omega) h3 (fun m m1 m2 => h4 m (by omega) m2)
/-- The first answer of p below n; e if there is none. -/
def first {ρ : Type} (p : Nat → Option ρ) (e : ρ) (n : Nat) : ρ := firstOr p e 0 n
theorem first_cases {ρ : Type} (p : Nat → Option ρ) (e : ρ) (n : Nat) : (first p e n = e ∧ ∀ j, j < n → p j = none) ∨ ∃ j, j < n ∧ p j = some (first p e n) ∧ ∀ m, m < j → p m = none := by
  rcases firstOr_cases p e n 0 with ⟨h1, h2⟩ | ⟨j, _, h2, h3, h4⟩
  · exact .inl ⟨h1, fun j h => h2 j (Nat.zero_le _) (by omega)⟩
  · exact .inr ⟨j, by omega, h3, fun m h => h4 m (Nat.zero_le _) h⟩
theorem first_all {ρ : Type} {p : Nat → Option ρ} {e : ρ} {n : Nat} (h : ∀ j, j < n → p j = none) : first p e n = e := firstOr_all (fun j _ h2 => h j (by omega))
theorem first_at {ρ : Type} {p : Nat → Option ρ} {e r : ρ} {n : Nat} (j : Nat) (h2 : j < n) (h3 : p j = some r) (h4 : ∀ m, m < j → p m = none) : first p e n = r := firstOr_at j (Nat.zero_le _) (by omega) h3 (fun m _ h => h4 m h)

/-- A loop that counts up to n and ends where p answers. -/
theorem Ev_firstFrom {ρ : Type} {L : Nat → Nat → Option ρ} {n : Nat} (p : Nat → Option ρ) {e : ρ}
    (go : ∀ i, i < n → p i = none → ∀ r, Ev (fun k => L k (i + 1)) r → Ev (fun k => L k i) r)
    (stop : ∀ i r, i < n → p i = some r → Ev (fun k => L k i) r) (fin : (∀ j, j < n → p j = none) → Ev (fun k => L k n) e) :
    ∀ (d i : Nat), i + d = n → (∀ j, j < i → p j = none) → Ev (fun k => L k i) (firstOr p e i d) := by
  intro d
  induction d with
  | zero => intro i hi hb; obtain rfl : i = n := by omega
            exact fin hb
  | succ d ih =>
    intro i hi hb
    unfold firstOr
    cases h : p i with
    | some r => exact stop i r (by omega) h
    | none => exact go i (by omega) h _ (ih (i + 1) (by omega) (fun j hj => by
        by_cases e : j = i
        · rw [e]; exact h
        · exact hb j (by omega)))
theorem Ev_first' {ρ : Type} {L : Nat → Nat → Option ρ} {n : Nat} (p : Nat → Option ρ) {e : ρ}
    (go : ∀ i, i < n → p i = none → ∀ r, Ev (fun k => L k (i + 1)) r → Ev (fun k => L k i) r)
    (stop : ∀ i r, i < n → p i = some r → Ev (fun k => L k i) r) (fin : (∀ j, j < n → p j = none) → Ev (fun k => L k n) e) : Ev (fun k => L k 0) (first p e n) :=
  Ev_firstFrom p go stop fin n 0 (by omega) (fun j h => by omega)
theorem Ev_first {ρ : Type} {L : Nat → Nat → Option ρ} {n : Nat} (p : Nat → Option ρ) {e : ρ}
    (go : ∀ i, i < n → p i = none → ∀ r, Ev (fun k => L k (i + 1)) r → Ev (fun k => L k i) r)
    (stop : ∀ i r, i < n → p i = some r → Ev (fun k => L k i) r) (fin : Ev (fun k => L k n) e) : Ev (fun k => L k 0) (first p e n) :=
  Ev_first' p go stop (fun _ => fin)
/-- A loop that counts up to n. -/
theorem Ev_up {ρ : Type} {L : Nat → Nat → Option ρ} {n : Nat} {r : ρ}
    (go : ∀ i, i < n → Ev (fun k => L k (i + 1)) r → Ev (fun k => L k i) r) (fin : Ev (fun k => L k n) r) : Ev (fun k => L k 0) r := by
  have h : ∀ d i, i + d = n → Ev (fun k => L k i) r := by
    intro d
    induction d with
    | zero => intro i hi; obtain rfl : i = n := by omega
              exact fin
    | succ d ih => intro i hi; exact go i (by omega) (ih (i + 1) (by omega))
  exact h n 0 (by omega)

theorem take_map_succ {α β : Type} (l : List α) (f : α → β) (z : α) {i : Nat} (h : i < l.length) : (l.take (i + 1)).map f = (l.take i).map f ++ [f (l.getD i z)] := by
  rw [List.take_succ_eq_append_getElem h, List.map_append, List.getD_eq_getElem?_getD, List.getElem?_eq_getElem h]
  rfl
theorem getD_mem {α : Type} (l : List α) (z : α) {i : Nat} (h : i < l.length) : l.getD i z ∈ l := by
  rw [List.getD_eq_getElem?_getD, List.getElem?_eq_getElem h]
  exact List.getElem_mem h
theorem filter_range_succ (q : Nat → Bool) (i : Nat) : (List.range (i + 1)).filter q = if q i = true then (List.range i).filter q ++ [i] else (List.range i).filter q := by
  rw [List.range_succ, List.filter_append]
  by_cases h : q i = true
  · rw [if_pos h, List.filter_cons_of_pos h]; rfl
  · rw [if_neg h, List.filter_cons_of_neg h]; simp
theorem Ev.stepn {α : Type} {g f : Nat → Option α} {r : α} (m : Nat) (h : ∀ k, g (k + m) = f k) (hf : Ev f r) : Ev g r := by
  obtain ⟨K, hK⟩ := hf
  exact ⟨K + m, fun k hk => by obtain ⟨d, rfl⟩ : ∃ d, k = d + m := ⟨k - m, by omega⟩; rw [h]; exact hK d (by omega)⟩
theorem ite_or {α : Type} (c1 c2 : Prop) [Decidable c1] [Decidable c2] (g : Bool → α) : (if c1 then g true else g (decide c2)) = g (decide (c1 ∨ c2)) := by
  by_cases h : c1
  · rw [if_pos h, decide_eq_true (Or.inl h)]
  · rw [if_neg h]; congr 1; simp [h]
theorem ite_or2 {α : Type} (c1 c2 : Prop) [Decidable c1] [Decidable c2] (a b : α) : (if c1 then a else if c2 then a else b) = if c1 ∨ c2 then a else b := by
  by_cases h : c1
  · rw [if_pos h, if_pos (Or.inl h)]
  · by_cases h2 : c2
    · rw [if_neg h, if_pos h2, if_pos (Or.inr h2)]
    · rw [if_neg h, if_neg h2, if_neg (fun h3 => h3.elim h h2)]
theorem of_ite_none {α : Type} {c : Prop} [Decidable c] {a : α} (h : (if c then none else some a) = none) : c := Classical.byContradiction fun hn => by rw [if_neg hn] at h; cases h
theorem of_ite_some {α : Type} {c : Prop} [Decidable c] {a r : α} (h : (if c then none else some a) = some r) : ¬ c ∧ a = r := by
  by_cases hc : c
  · rw [if_pos hc] at h; cases h
  · rw [if_neg hc] at h; exact ⟨hc, Option.some.inj h⟩
/-- What a round answers: an end, or what follows. -/
def stepO {ρ : Type} (a : Option ρ) (b : Option ρ) : Option ρ := match a with | some r => some r | none => b
/-- A loop whose round is one equation. -/
theorem Ev_loop {ρ : Type} {L : Nat → Nat → Option ρ} {n : Nat} (m : Nat) (p : Nat → Option ρ) {e : ρ}
    (step : ∀ k i, i < n → L (k + m) i = stepO (p i) (L k (i + 1))) (fin : Ev (fun k => L k n) e) : Ev (fun k => L k 0) (first p e n) :=
  Ev_first p (fun i hi hp r hr => Ev.stepn m (fun k => by rw [step k i hi, hp]; rfl) hr) (fun i r hi hp => Ev.stepn m (f := fun _ => some r) (fun k => by rw [step k i hi, hp]; rfl) (Ev.some r)) fin
theorem first_any {ρ : Type} (c : Nat → Prop) [DecidablePred c] (a e : ρ) (n : Nat) : first (fun j => if c j then some a else none) e n = if ∃ j, j < n ∧ c j then a else e := by
  rcases first_cases (fun j => if c j then some a else none) e n with ⟨h1, h2⟩ | ⟨j, h1, h2, h3⟩
  · rw [h1, if_neg]
    rintro ⟨j, hj, hc⟩
    have := h2 j hj
    simp [hc] at this
  · have hc : c j := by
      refine Classical.byContradiction fun hn => ?_
      simp [hn] at h2
    rw [if_pos ⟨j, h1, hc⟩]
    simp [hc] at h2
    exact h2.symm
theorem any_take {α β : Type} (l : List α) (f : α → β) (q : β → Bool) (z : α) {i : Nat} (hi : i ≤ l.length) : ((l.take i).map f).any q = true ↔ ∃ j, j < i ∧ q (f (l.getD j z)) = true := by
  rw [List.any_eq_true]
  constructor
  · rintro ⟨x, hx, hq⟩
    obtain ⟨y, hy, rfl⟩ := List.mem_map.1 hx
    obtain ⟨j, hj, rfl⟩ := List.getElem_of_mem hy
    rw [List.length_take] at hj
    refine ⟨j, by omega, ?_⟩
    rw [List.getElem_take] at hq
    rw [List.getD_eq_getElem?_getD, List.getElem?_eq_getElem (by omega)]
    exact hq
  · rintro ⟨j, hj, hq⟩
    refine ⟨f (l.getD j z), List.mem_map.2 ⟨l.getD j z, ?_, rfl⟩, hq⟩
    rw [List.getD_eq_getElem?_getD, List.getElem?_eq_getElem (by omega)]
    exact List.mem_take_iff_getElem.2 ⟨j, by omega, rfl⟩
theorem any_all {α β : Type} (l : List α) (f : α → β) (q : β → Bool) (z : α) : (l.map f).any q = true ↔ ∃ j, j < l.length ∧ q (f (l.getD j z)) = true := by
  have := any_take l f q z (Nat.le_refl l.length)
  rwa [List.take_length] at this
end Go.Proofs.Ytplljicodflagaa.Pl
/- The check of fixed results of chapter 13. -/
namespace Go.Proofs.Ytplljicodflagaa.Pure
open Go.RowKit Go.Proofs.Ytplljicodflagaa.P Go.Proofs.Ytplljicodflagaa.Pl Go.Proofs.YtplljicodflagaaW.PrintWords
theorem alive : Ev (fun k => petrinetlaw13_alive.f k) true := Ev.of (fun k => petrinetlaw13_alive.mono k) (k := 60) (by decide +kernel)
theorem alive' : Ev (fun k => (petrinetlaw13_alive.f k).bind fun t => some t) true := Ev.bind alive (Ev.some _)
end Go.Proofs.Ytplljicodflagaa.Pure
/- What a net's check answers, told plainly; and that the program's check answers it. -/
namespace Go.Proofs.Ytplljicodflagaa.Pl
open Go.RowKit Go.Proofs.Ytplljicodflagaa.P Go.Proofs.YtplljicodflagaaW.PrintWords Go.Proofs.YtplljicodflagaaW.PrintMore

abbrev Pla := S46
abbrev Tra := S41
abbrev Ac := S43
abbrev zP : Pla := z46
abbrev zT : Tra := z41
abbrev zA : Ac := z43
theorem rdP (xs : List Pla) (i : Nat) : rd_T46 xs (i : Int) = xs.getD i zP := by simp [rd_T46]
theorem rdT (xs : List Tra) (i : Nat) : rd_T41 xs (i : Int) = xs.getD i zT := by simp [rd_T41]
theorem rdA (xs : List Ac) (i : Nat) : rd_T43 xs (i : Int) = xs.getD i zA := by simp [rd_T43]
theorem rdAs (xs : List (List Ac)) (i : Nat) : rd_L4 xs (i : Int) = xs.getD i [] := by simp [rd_L4]

/-! ### arcs -/
def arcE (np : Int) (l : List Ac) (i : Nat) : Option Int :=
  if (l.getD i zA).f0 < 0 ∨ (l.getD i zA).f0 ≥ np then some 7 else if 0 < i ∧ (l.getD (i - 1) zA).f0 ≥ (l.getD i zA).f0 then some 8 else if (l.getD i zA).f1 < 1 ∨ (l.getD i zA).f1 > 99 then some 9 else none
def arcsE (np : Int) (l : List Ac) : Int := first (arcE np l) 0 l.length
theorem checkArcs_step (k : Nat) (l : List Ac) (np : Int) (i : Nat) (hi : i < l.length) (hl : l.length ≤ 1000000) :
    net_checkArcs.l0 (k + 3) l np l (l.length : Int) (i : Int) = stepO (arcE np l i) (net_checkArcs.l0 k l np l (l.length : Int) ((i + 1 : Nat) : Int)) := by
  simp only [net_checkArcs.l0]
  rw [if_pos (by omega), if_pos (by omega), if_pos (by omega), rdA, ite_or _ _ (fun b => net_checkArcs.j1 (k + 2) l np (i : Int) l (l.length : Int) (i : Int) b (l.getD i zA).f0 (l.getD i zA).f1)]
  unfold arcE
  by_cases c1 : (l.getD i zA).f0 < 0 ∨ (l.getD i zA).f0 ≥ np
  · rw [decide_eq_true c1, if_pos c1]; simp only [net_checkArcs.j1, ↓reduceIte, stepO]
  · rw [decide_eq_false c1, if_neg c1]
    have e2 : ∀ b : Bool, net_checkArcs.j2 (k + 1) l np l (l.length : Int) (i : Int) b (l.getD i zA).f0 (l.getD i zA).f1 = if b = true then some 8 else if (l.getD i zA).f1 < 1 ∨ (l.getD i zA).f1 > 99 then some 9 else net_checkArcs.l0 k l np l (l.length : Int) ((i + 1 : Nat) : Int) := by
      intro b
      simp only [net_checkArcs.j2]
      rw [wrap_up hi (by omega), ite_or2]
    simp only [net_checkArcs.j1]
    rw [if_neg Bool.false_ne_true]
    by_cases c2 : 0 < i
    · rw [if_pos (by omega), if_pos (by rw [wrap_ok (by omega) (by omega)]; omega), if_pos (by rw [wrap_ok (by omega) (by omega)]; omega), wrap_ok (x := (i : Int) - 1) (by omega) (by omega), show ((i : Int) - 1) = ((i - 1 : Nat) : Int) by omega, rdA, e2]
      by_cases c3 : (l.getD (i - 1) zA).f0 ≥ (l.getD i zA).f0
      · rw [decide_eq_true c3, if_pos rfl, if_pos ⟨c2, c3⟩]; rfl
      · rw [decide_eq_false c3, if_neg Bool.false_ne_true, if_neg (show ¬ (0 < i ∧ (l.getD (i - 1) zA).f0 ≥ (l.getD i zA).f0) from fun h => c3 h.2)]
        by_cases d : (l.getD i zA).f1 < 1 ∨ (l.getD i zA).f1 > 99
        · rw [if_pos d, if_pos d]; rfl
        · rw [if_neg d, if_neg d]; rfl
    · rw [if_neg (by omega), e2, if_neg Bool.false_ne_true, if_neg (show ¬ (0 < i ∧ (l.getD (i - 1) zA).f0 ≥ (l.getD i zA).f0) from fun h => c2 h.1)]
      by_cases d : (l.getD i zA).f1 < 1 ∨ (l.getD i zA).f1 > 99
      · rw [if_pos d, if_pos d]; rfl
      · rw [if_neg d, if_neg d]; rfl
theorem checkArcs_ev (l : List Ac) (np : Int) (hl : l.length ≤ 1000000) : Ev (fun k => net_checkArcs.f k l np) (arcsE np l) :=
  Ev_loop (L := fun k i => net_checkArcs.l0 k l np l (l.length : Int) (i : Int)) 3 (arcE np l) (fun k i hi => checkArcs_step k l np i hi hl)
    (Ev.one (fun k => by simp only [net_checkArcs.l0]; rw [if_neg (by omega)]))

/-! ### a transition -/
def transE (np : Int) (t : Tra) : Int := if t.f4 < 0 ∨ t.f4 > 9 then 1 else if arcsE np t.f1 ≠ 0 then arcsE np t.f1 else if arcsE np t.f2 ≠ 0 then arcsE np t.f2 else arcsE np t.f3
def ThinT (t : Tra) : Prop := t.f0.size ≤ 1000000 ∧ t.f1.length ≤ 1000000 ∧ t.f2.length ≤ 1000000 ∧ t.f3.length ≤ 1000000
theorem checkTrans_ev (t : Tra) (np : Int) (ht : ThinT t) : Ev (fun k => net_checkTrans.f k t.f0 t.f1 t.f2 t.f3 t.f4 np) (transE np t) := by
  have e0 : ∀ k, net_checkTrans.f k t.f0 t.f1 t.f2 t.f3 t.f4 np = net_checkTrans.j0 k np (decide (t.f4 < 0 ∨ t.f4 > 9)) t.f0 t.f1 t.f2 t.f3 t.f4 := fun k => by
    unfold net_checkTrans.f
    exact ite_or _ _ (fun b => net_checkTrans.j0 k np b t.f0 t.f1 t.f2 t.f3 t.f4)
  refine Ev.congr e0 ?_
  unfold transE
  by_cases c : t.f4 < 0 ∨ t.f4 > 9
  · rw [decide_eq_true c, if_pos c]
    exact Ev.one (fun k => by simp only [net_checkTrans.j0, ↓reduceIte])
  · rw [decide_eq_false c, if_neg c]
    refine Ev.step (f := fun k => net_checkTrans.l0 k np [t.f1, t.f2, t.f3] 3 ((0 : Nat) : Int)) (fun k => by simp only [net_checkTrans.j0]; rw [if_neg Bool.false_ne_true]; rfl) ?_
    have hm : ∀ i, i < 3 → ([t.f1, t.f2, t.f3].getD i []).length ≤ 1000000 := fun i hi => by
      obtain ⟨_, h1, h2, h3⟩ := ht
      rcases i with _ | _ | _ | i
      · exact h1
      · exact h2
      · exact h3
      · omega
    have h := Ev_first (L := fun k i => net_checkTrans.l0 k np [t.f1, t.f2, t.f3] 3 (i : Int)) (n := 3) (fun i => if arcsE np ([t.f1, t.f2, t.f3].getD i []) = 0 then none else some (arcsE np ([t.f1, t.f2, t.f3].getD i []))) (e := 0)
      (fun i hi hp r hr => Ev.step (f := fun k => (net_checkArcs.f k ([t.f1, t.f2, t.f3].getD i []) np).bind fun e => if e = 0 then net_checkTrans.l0 k np [t.f1, t.f2, t.f3] 3 ((i + 1 : Nat) : Int) else some e) (fun k => by
        simp only [net_checkTrans.l0]
        rw [if_pos (by omega), if_pos (by omega), if_pos (by simp only [List.length_cons, List.length_nil]; omega), rdAs, wrap_up hi (by omega)]) (by
          refine Ev.bind (checkArcs_ev _ np (hm i hi)) ?_
          have h0 : arcsE np ([t.f1, t.f2, t.f3].getD i []) = 0 := of_ite_none hp
          simp only [h0, ↓reduceIte]
          exact hr))
      (fun i r hi hp => Ev.step (f := fun k => (net_checkArcs.f k ([t.f1, t.f2, t.f3].getD i []) np).bind fun e => if e = 0 then net_checkTrans.l0 k np [t.f1, t.f2, t.f3] 3 ((i + 1 : Nat) : Int) else some e) (fun k => by
        simp only [net_checkTrans.l0]
        rw [if_pos (by omega), if_pos (by omega), if_pos (by simp only [List.length_cons, List.length_nil]; omega), rdAs, wrap_up hi (by omega)]) (by
          refine Ev.bind (checkArcs_ev _ np (hm i hi)) ?_
          obtain ⟨h0, rfl⟩ := of_ite_some hp
          simp only [h0, ↓reduceIte]
          exact Ev.some _))
      (Ev.one (fun k => by simp only [net_checkTrans.l0]; rw [if_neg (by omega)]))
    have e3 : first (fun i => if arcsE np ([t.f1, t.f2, t.f3].getD i []) = 0 then none else some (arcsE np ([t.f1, t.f2, t.f3].getD i []))) 0 3 = if arcsE np t.f1 ≠ 0 then arcsE np t.f1 else if arcsE np t.f2 ≠ 0 then arcsE np t.f2 else arcsE np t.f3 := by
      unfold first firstOr firstOr firstOr firstOr
      simp only [List.getD_cons_zero, List.getD_cons_succ]
      by_cases h1 : arcsE np t.f1 = 0
      · by_cases h2 : arcsE np t.f2 = 0
        · by_cases h3 : arcsE np t.f3 = 0 <;> simp [h1, h2, h3]
        · simp [h1, h2]
      · simp [h1]
    rw [← e3]
    exact h

/-! ### the check -/
def nmE (ns : List ByteArray) (s : ByteArray) : Int := if nameB s = true then (if (ns.any fun o => o.toList == s.toList) = true then 6 else 0) else 5
def plR (ps : List Pla) (i : Nat) : Int := if nmE ((ps.take i).map (·.f0)) (ps.getD i zP).f0 ≠ 0 then nmE ((ps.take i).map (·.f0)) (ps.getD i zP).f0 else placeE (ps.getD i zP).f1 (ps.getD i zP).f2
def trR (ps : List Pla) (ts : List Tra) (i : Nat) : Int := if nmE (ps.map (·.f0) ++ (ts.take i).map (·.f0)) (ts.getD i zT).f0 ≠ 0 then nmE (ps.map (·.f0) ++ (ts.take i).map (·.f0)) (ts.getD i zT).f0 else transE (ps.length : Int) (ts.getD i zT)
def pF (ps : List Pla) (i : Nat) : Option (Int × Int) := if plR ps i = 0 then none else some (plR ps i, (i : Int))
def tF (ps : List Pla) (ts : List Tra) (i : Nat) : Option (Int × Int) := if trR ps ts i = 0 then none else some (trR ps ts i, (ps.length : Int) + (i : Int))
def checkS (nm : ByteArray) (ps : List Pla) (ts : List Tra) : Int × Int :=
  if nameB nm = true then (if (ps.length : Int) < 1 ∨ (24 : Int) < (ps.length : Int) ∨ (24 : Int) < (ts.length : Int) then (2, 0) else first (pF ps) (first (tF ps ts) (0, 0) ts.length) ps.length) else (5, 0)
def validS (nm : ByteArray) (ps : List Pla) (ts : List Tra) : Bool := (checkS nm ps ts).1 == 0
/-- What is asked of a net's size for its parts to be told. -/
def Thin (ts : List Tra) : Prop := ∀ t ∈ ts, ThinT t
theorem Thin.at {ts : List Tra} (h : Thin ts) {i : Nat} (hi : i < ts.length) : ThinT (ts.getD i zT) := h _ (getD_mem ts zT hi)
theorem addM_ev {ns : List ByteArray} {s : ByteArray} (h : ns.length < 1000000) : addM ns s = some (nmE ns s, if nmE ns s = 0 then ns ++ [s] else ns) := by
  unfold addM nmE
  by_cases h1 : nameB s = true
  · by_cases h2 : (ns.any fun o => o.toList == s.toList) = true
    · simp [h1, h2]
    · rw [if_pos h1, if_neg h2, if_pos h, if_pos h1, if_neg h2]; simp
  · simp [h1]
theorem check_ts {ps : List Pla} {ts : List Tra} (hp : ps.length ≤ 24) (ht : ts.length ≤ 24) (hT : Thin ts) : Ev (fun k => net_Check.l1 k ps ts (ps.map (·.f0)) 0) (first (tF ps ts) (0, 0) ts.length) := by
  have hlen : ∀ i, i ≤ ts.length → (ps.map (·.f0) ++ (ts.take i).map (·.f0)).length < 1000000 := fun i hi => by simp only [List.length_append, List.length_map, List.length_take]; omega
  have stp : ∀ i, i < ts.length → ∀ k, net_Check.l1 (k + 1) ps ts (ps.map (·.f0) ++ (ts.take i).map (·.f0)) (i : Int) = if nmE (ps.map (·.f0) ++ (ts.take i).map (·.f0)) (ts.getD i zT).f0 = 0 then ((net_checkTrans.f k (ts.getD i zT).f0 (ts.getD i zT).f1 (ts.getD i zT).f2 (ts.getD i zT).f3 (ts.getD i zT).f4 (ps.length : Int)).bind fun e => if e = 0 then net_Check.l1 k ps ts (ps.map (·.f0) ++ (ts.take (i + 1)).map (·.f0)) ((i + 1 : Nat) : Int) else some (e, (ps.length : Int) + (i : Int))) else some (nmE (ps.map (·.f0) ++ (ts.take i).map (·.f0)) (ts.getD i zT).f0, (ps.length : Int) + (i : Int)) := fun i hi k => by
    simp only [net_Check.l1]
    rw [if_pos (by omega), if_pos (by omega), rdT, addM_ev (hlen i (by omega)), wrap_up hi (by omega), wrap_ok (x := (ps.length : Int) + (i : Int)) (by omega) (by omega)]
    simp only [Option.bind_some]
    by_cases h0 : nmE (ps.map (·.f0) ++ (ts.take i).map (·.f0)) (ts.getD i zT).f0 = 0
    · rw [if_pos h0, if_pos h0, if_pos h0, List.append_assoc, ← take_map_succ ts (fun t => t.f0) zT hi]
    · rw [if_neg h0, if_neg h0]
  have h := Ev_first (L := fun k i => net_Check.l1 k ps ts (ps.map (·.f0) ++ (ts.take i).map (·.f0)) (i : Int)) (n := ts.length) (tF ps ts) (e := ((0 : Int), (0 : Int)))
    (fun i hi hf r hr => Ev.step (stp i hi) (by
      have hz : trR ps ts i = 0 := of_ite_none hf
      by_cases h0 : nmE (ps.map (·.f0) ++ (ts.take i).map (·.f0)) (ts.getD i zT).f0 = 0
      · unfold trR at hz
        rw [if_neg (by simpa using h0)] at hz
        simp only [h0, ↓reduceIte]
        refine Ev.bind (checkTrans_ev _ _ (hT.at hi)) ?_
        simp only [hz, ↓reduceIte]
        exact hr
      · unfold trR at hz
        rw [if_pos h0] at hz
        exact absurd hz h0))
    (fun i r hi hf => Ev.step (stp i hi) (by
      obtain ⟨hz, rfl⟩ := of_ite_some hf
      by_cases h0 : nmE (ps.map (·.f0) ++ (ts.take i).map (·.f0)) (ts.getD i zT).f0 = 0
      · have e : trR ps ts i = transE (ps.length : Int) (ts.getD i zT) := by unfold trR; rw [if_neg (by simpa using h0)]
        rw [e] at hz ⊢
        simp only [h0, ↓reduceIte]
        refine Ev.bind (checkTrans_ev _ _ (hT.at hi)) ?_
        simp only [hz, ↓reduceIte]
        exact Ev.some _
      · have e : trR ps ts i = nmE (ps.map (·.f0) ++ (ts.take i).map (·.f0)) (ts.getD i zT).f0 := by unfold trR; rw [if_pos h0]
        rw [e]
        simp only [h0, ↓reduceIte]
        exact Ev.some _))
    (Ev.one (fun k => by simp only [net_Check.l1]; rw [if_neg (by omega)]))
  simpa using h
theorem check_ps {ps : List Pla} {ts : List Tra} (hp : ps.length ≤ 24) (ht : ts.length ≤ 24) (hT : Thin ts) : Ev (fun k => net_Check.l0 k ps ts [] 0) (first (pF ps) (first (tF ps ts) (0, 0) ts.length) ps.length) := by
  have hlen : ∀ i, i ≤ ps.length → ((ps.take i).map (·.f0)).length < 1000000 := fun i hi => by simp only [List.length_map, List.length_take]; omega
  have stp : ∀ i, i < ps.length → ∀ k, net_Check.l0 (k + 1) ps ts ((ps.take i).map (·.f0)) (i : Int) = if nmE ((ps.take i).map (·.f0)) (ps.getD i zP).f0 = 0 then (if placeE (ps.getD i zP).f1 (ps.getD i zP).f2 = 0 then net_Check.l0 k ps ts ((ps.take (i + 1)).map (·.f0)) ((i + 1 : Nat) : Int) else some (placeE (ps.getD i zP).f1 (ps.getD i zP).f2, (i : Int))) else some (nmE ((ps.take i).map (·.f0)) (ps.getD i zP).f0, (i : Int)) := fun i hi k => by
    simp only [net_Check.l0]
    rw [if_pos (by omega), if_pos (by omega), rdP, addM_ev (hlen i (by omega)), wrap_up hi (by omega)]
    simp only [Option.bind_some, net_checkPlace.f]
    by_cases h0 : nmE ((ps.take i).map (·.f0)) (ps.getD i zP).f0 = 0
    · rw [if_pos h0, if_pos h0, if_pos h0, ← take_map_succ ps (fun t => t.f0) zP hi]
    · rw [if_neg h0, if_neg h0]
  have h := Ev_first (L := fun k i => net_Check.l0 k ps ts ((ps.take i).map (·.f0)) (i : Int)) (n := ps.length) (pF ps) (e := first (tF ps ts) (0, 0) ts.length)
    (fun i hi hf r hr => Ev.step (stp i hi) (by
      have hz : plR ps i = 0 := of_ite_none hf
      by_cases h0 : nmE ((ps.take i).map (·.f0)) (ps.getD i zP).f0 = 0
      · unfold plR at hz
        rw [if_neg (by simpa using h0)] at hz
        simp only [h0, hz, ↓reduceIte]
        exact hr
      · unfold plR at hz
        rw [if_pos h0] at hz
        exact absurd hz h0))
    (fun i r hi hf => Ev.step (stp i hi) (by
      obtain ⟨hz, rfl⟩ := of_ite_some hf
      by_cases h0 : nmE ((ps.take i).map (·.f0)) (ps.getD i zP).f0 = 0
      · have e : plR ps i = placeE (ps.getD i zP).f1 (ps.getD i zP).f2 := by unfold plR; rw [if_neg (by simpa using h0)]
        rw [e] at hz ⊢
        simp only [h0, hz, ↓reduceIte]
        exact Ev.some _
      · have e : plR ps i = nmE ((ps.take i).map (·.f0)) (ps.getD i zP).f0 := by unfold plR; rw [if_pos h0]
        rw [e]
        simp only [h0, ↓reduceIte]
        exact Ev.some _))
    (by
      refine Ev.step (f := fun k => net_Check.l1 k ps ts (ps.map (·.f0)) 0) (fun k => ?_) (check_ts hp ht hT)
      simp only [net_Check.l0]
      rw [if_neg (by omega), List.take_length])
  simpa using h
theorem check_ev (nm : ByteArray) {ps : List Pla} {ts : List Tra} (hT : Thin ts) : Ev (fun k => net_Check.f k nm ps ts) (checkS nm ps ts) := by
  unfold net_Check.f checkS
  by_cases h1 : nameB nm = true
  · by_cases h2 : (ps.length : Int) < 1 ∨ (24 : Int) < (ps.length : Int) ∨ (24 : Int) < (ts.length : Int)
    · simp only [h1, h2, ↓reduceIte]; exact Ev.some _
    · simp only [h1, h2, ↓reduceIte]
      exact check_ps (by omega) (by omega) hT
  · simp only [h1]; exact Ev.some _
theorem valid_ev (nm : ByteArray) {ps : List Pla} {ts : List Tra} (hT : Thin ts) : Ev (fun k => net_valid.f k nm ps ts) (validS nm ps ts) := by
  unfold net_valid.f
  exact Ev.bind (check_ev nm hT) (Ev.some _)
end Go.Proofs.Ytplljicodflagaa.Pl
/- The small nets. -/
namespace Go.Proofs.Ytplljicodflagaa.Pl
open Go.RowKit Go.Proofs.Ytplljicodflagaa.P Go.Proofs.YtplljicodflagaaW.PrintWords Go.Proofs.YtplljicodflagaaW.PrintMore

def smT (t : Tra) : Option Bool := if (t.f0.size : Int) > 20 ∨ (t.f1.length : Int) > 26 ∨ (t.f2.length : Int) > 26 ∨ (t.f3.length : Int) > 26 then some false else none
def smP (p : Pla) : Option Bool := if (p.f0.size : Int) > 20 then some false else none
def smallS (nm : ByteArray) (ps : List Pla) (ts : List Tra) : Bool :=
  if (ps.length : Int) > 26 ∨ (ts.length : Int) > 26 ∨ (nm.size : Int) > 20 then false else first (fun i => smP (ps.getD i zP)) (first (fun i => smT (ts.getD i zT)) true ts.length) ps.length
structure SmallN (nm : ByteArray) (ps : List Pla) (ts : List Tra) : Prop where
  p : ps.length ≤ 26
  t : ts.length ≤ 26
  n : nm.size ≤ 20
  pn : ∀ i, i < ps.length → (ps.getD i zP).f0.size ≤ 20
  tn : ∀ i, i < ts.length → (ts.getD i zT).f0.size ≤ 20 ∧ (ts.getD i zT).f1.length ≤ 26 ∧ (ts.getD i zT).f2.length ≤ 26 ∧ (ts.getD i zT).f3.length ≤ 26
theorem smallS_true {nm : ByteArray} {ps : List Pla} {ts : List Tra} (h : smallS nm ps ts = true) : SmallN nm ps ts := by
  unfold smallS at h
  by_cases c : (ps.length : Int) > 26 ∨ (ts.length : Int) > 26 ∨ (nm.size : Int) > 20
  · rw [if_pos c] at h; cases h
  · rw [if_neg c] at h
    rcases first_cases (fun i => smP (ps.getD i zP)) (first (fun i => smT (ts.getD i zT)) true ts.length) ps.length with ⟨h1, h2⟩ | ⟨j, h1, h2, _⟩
    · rw [h1] at h
      rcases first_cases (fun i => smT (ts.getD i zT)) true ts.length with ⟨k1, k2⟩ | ⟨j, k1, k2, _⟩
      · refine ⟨by omega, by omega, by omega, fun i hi => ?_, fun i hi => ?_⟩
        · have := h2 i hi
          unfold smP at this
          by_cases d : ((ps.getD i zP).f0.size : Int) > 20
          · rw [if_pos d] at this; cases this
          · omega
        · have := k2 i hi
          unfold smT at this
          by_cases d : ((ts.getD i zT).f0.size : Int) > 20 ∨ ((ts.getD i zT).f1.length : Int) > 26 ∨ ((ts.getD i zT).f2.length : Int) > 26 ∨ ((ts.getD i zT).f3.length : Int) > 26
          · rw [if_pos d] at this; cases this
          · omega
      · rw [h] at k2
        unfold smT at k2
        by_cases d : ((ts.getD j zT).f0.size : Int) > 20 ∨ ((ts.getD j zT).f1.length : Int) > 26 ∨ ((ts.getD j zT).f2.length : Int) > 26 ∨ ((ts.getD j zT).f3.length : Int) > 26
        · rw [if_pos d] at k2; cases k2
        · rw [if_neg d] at k2; cases k2
    · rw [h] at h2
      unfold smP at h2
      by_cases d : ((ps.getD j zP).f0.size : Int) > 20
      · rw [if_pos d] at h2; cases h2
      · rw [if_neg d] at h2; cases h2
theorem SmallN.thin {nm : ByteArray} {ps : List Pla} {ts : List Tra} (h : SmallN nm ps ts) : Thin ts := fun t ht => by
  obtain ⟨i, hi, rfl⟩ := List.getElem_of_mem ht
  have := h.tn i hi
  rw [List.getD_eq_getElem?_getD, List.getElem?_eq_getElem hi] at this
  obtain ⟨a, b, c, d⟩ := this
  exact ⟨Nat.le_trans a (by decide), Nat.le_trans b (by decide), Nat.le_trans c (by decide), Nat.le_trans d (by decide)⟩
def smallR (b : Bool) (nm : ByteArray) (ps : List Pla) (ts : List Tra) : ByteArray × List Pla × List Tra × Bool := if b = true then (nm, ps, ts, true) else (⟨#[]⟩, [], [], false)
theorem first_map {α β : Type} (f : α → β) (p : Nat → Option α) (e : α) (n : Nat) : first (fun i => (p i).map f) (f e) n = f (first p e n) := by
  rcases first_cases p e n with ⟨h1, h2⟩ | ⟨j, h1, h2, h3⟩
  · rw [h1]; exact first_all (fun j hj => by rw [h2 j hj]; rfl)
  · exact first_at j h1 (by rw [h2]; rfl) (fun m hm => by rw [h3 m hm]; rfl)
theorem small_ev (nm : ByteArray) (ps : List Pla) (ts : List Tra) : Ev (fun k => petrinetref09_Small.f k nm ps ts) (smallR (smallS nm ps ts) nm ps ts) := by
  have e0 : ∀ k, petrinetref09_Small.f k nm ps ts = petrinetref09_Small.j0 k (decide ((ps.length : Int) > 26 ∨ (ts.length : Int) > 26 ∨ (nm.size : Int) > 20)) nm ps ts := fun k => by
    unfold petrinetref09_Small.f
    rw [ite_or ((ts.length : Int) > 26) _ (fun b => petrinetref09_Small.j0 k b nm ps ts)]
    exact ite_or _ _ (fun b => petrinetref09_Small.j0 k b nm ps ts)
  refine Ev.congr e0 ?_
  unfold smallS
  by_cases c : (ps.length : Int) > 26 ∨ (ts.length : Int) > 26 ∨ (nm.size : Int) > 20
  · rw [decide_eq_true c, if_pos c]
    exact Ev.one (fun k => by simp only [petrinetref09_Small.j0, ↓reduceIte]; rfl)
  · rw [decide_eq_false c, if_neg c]
    refine Ev.step (f := fun k => petrinetref09_Small.l0 k ((0 : Nat) : Int) nm ps ts) (fun k => by simp only [petrinetref09_Small.j0]; rw [if_neg Bool.false_ne_true]; rfl) ?_
    have ht := Ev_loop (L := fun k i => petrinetref09_Small.l1 k (i : Int) nm ps ts) (n := ts.length) 1 (fun i => (smT (ts.getD i zT)).map (fun b => smallR b nm ps ts)) (e := smallR true nm ps ts)
      (fun k i hi => by
        simp only [petrinetref09_Small.l1]
        rw [if_pos (by omega), if_pos (by omega), rdT, wrap_up hi (by omega), ite_or2, ite_or2, ite_or2]
        unfold smT
        by_cases d : ((ts.getD i zT).f0.size : Int) > 20 ∨ ((ts.getD i zT).f1.length : Int) > 26 ∨ ((ts.getD i zT).f2.length : Int) > 26 ∨ ((ts.getD i zT).f3.length : Int) > 26
        · rw [if_pos d, if_pos (by omega)]; rfl
        · rw [if_neg d, if_neg (by omega)]; rfl)
      (Ev.one (fun k => by simp only [petrinetref09_Small.l1]; rw [if_neg (by omega)]; rfl))
    have hp := Ev_loop (L := fun k i => petrinetref09_Small.l0 k (i : Int) nm ps ts) (n := ps.length) 1 (fun i => (smP (ps.getD i zP)).map (fun b => smallR b nm ps ts)) (e := first (fun i => (smT (ts.getD i zT)).map (fun b => smallR b nm ps ts)) (smallR true nm ps ts) ts.length)
      (fun k i hi => by
        simp only [petrinetref09_Small.l0]
        rw [if_pos (by omega), if_pos (by omega), rdP, wrap_up hi (by omega)]
        unfold smP
        by_cases d : ((ps.getD i zP).f0.size : Int) > 20
        · rw [if_pos d, if_pos d]; rfl
        · rw [if_neg d, if_neg d]; rfl)
      (Ev.step (f := fun k => petrinetref09_Small.l1 k ((0 : Nat) : Int) nm ps ts) (fun k => by simp only [petrinetref09_Small.l0]; rw [if_neg (by omega)]; rfl) ht)
    rw [first_map (fun b => smallR b nm ps ts), first_map (fun b => smallR b nm ps ts)] at hp
    exact hp
end Go.Proofs.Ytplljicodflagaa.Pl
/- What the functions over nets answer, told plainly. -/
namespace Go.Proofs.Ytplljicodflagaa.Pl
open Go.RowKit Go.Proofs.Ytplljicodflagaa.P Go.Proofs.YtplljicodflagaaW.PrintWords Go.Proofs.YtplljicodflagaaW.PrintMore

def weightS (l : List Ac) (p : Int) : Int := first (fun i => if (l.getD i zA).f0 = p then some (l.getD i zA).f1 else none) 0 l.length
def plainP (ps : List Pla) (e : Bool) : Bool := first (fun i => if (ps.getD i zP).f2 ≠ 0 then some false else none) e ps.length
def plainT (ts : List Tra) (e : Bool) : Bool := first (fun i => if ((ts.getD i zT).f3.length : Int) > 0 ∨ (ts.getD i zT).f4 ≠ 0 then some false else none) e ts.length
def plainS (v : Bool) (ps : List Pla) (ts : List Tra) : Bool := plainT ts (plainP ps v)
theorem plainP_eq (ps : List Pla) (e : Bool) : plainP ps e = if ∃ i, i < ps.length ∧ (ps.getD i zP).f2 ≠ 0 then false else e := first_any _ _ _ _
theorem plainT_eq (ts : List Tra) (e : Bool) : plainT ts e = if ∃ i, i < ts.length ∧ (((ts.getD i zT).f3.length : Int) > 0 ∨ (ts.getD i zT).f4 ≠ 0) then false else e := first_any _ _ _ _
theorem plain_swap (v : Bool) (ps : List Pla) (ts : List Tra) : plainS v ps ts = if v = true then plainP ps (plainT ts true) else false := by
  unfold plainS
  rw [plainT_eq, plainP_eq, plainP_eq, plainT_eq]
  cases v <;> by_cases c1 : ∃ i, i < ps.length ∧ (ps.getD i zP).f2 ≠ 0 <;> by_cases c2 : ∃ i, i < ts.length ∧ (((ts.getD i zT).f3.length : Int) > 0 ∨ (ts.getD i zT).f4 ≠ 0) <;> simp only [c1, c2, if_true, if_false, Bool.false_eq_true, ite_self]
def ordinaryS (v : Bool) (ts : List Tra) : Bool := if (ts.all fun t => (t.f1.all fun a => a.f1 == 1) && (t.f2.all fun a => a.f1 == 1)) = true then v else false
def consumersS (v : Bool) (ts : List Tra) (p : Int) : List Int := if v = true then ((List.range ts.length).filter fun t : Nat => decide (weightS (ts.getD t zT).f1 p > 0)).map (fun t : Nat => (t : Int)) else []

/-! ### equal nets -/
end Go.Proofs.Ytplljicodflagaa.Pl
/- What the program's functions over nets answer: the initial marking, the classes, the incidence matrix. -/
namespace Go.Proofs.Ytplljicodflagaa.Pl
set_option linter.unusedVariables false
open Go.RowKit Go.Proofs.Ytplljicodflagaa.P Go.Proofs.YtplljicodflagaaW.PrintWords Go.Proofs.YtplljicodflagaaW.PrintMore

theorem plain_ev (nm : ByteArray) {ps : List Pla} {ts : List Tra} (hp : ps.length ≤ 1000000) (ht : ts.length ≤ 1000000) (hT : Thin ts) : Ev (fun k => net_Plain.f k nm ps ts) (plainS (validS nm ps ts) ps ts) := by
  have h1 := Ev_loop (L := fun k i => net_Plain.l1 k ps (ps.length : Int) (i : Int) nm ps ts) (n := ps.length) 1 (fun i => if (ps.getD i zP).f2 ≠ 0 then some false else none) (e := validS nm ps ts)
    (fun k i hi => by
      simp only [net_Plain.l1]
      rw [if_pos (by omega), if_pos (by omega), if_pos (by omega), rdP, wrap_up hi (by omega)]
      by_cases c : (ps.getD i zP).f2 = 0
      · rw [if_pos c, if_neg (by simpa using c)]; rfl
      · rw [if_neg c, if_pos c]; rfl)
    (Ev.step (f := fun k => (net_valid.f k nm ps ts).bind fun t => some t) (fun k => by simp only [net_Plain.l1]; rw [if_neg (by omega)]) (Ev.bind (valid_ev nm hT) (Ev.some _)))
  exact Ev_loop (L := fun k i => net_Plain.l0 k ts (ts.length : Int) (i : Int) nm ps ts) (n := ts.length) 1 (fun i => if ((ts.getD i zT).f3.length : Int) > 0 ∨ (ts.getD i zT).f4 ≠ 0 then some false else none) (e := plainP ps (validS nm ps ts))
    (fun k i hi => by
      simp only [net_Plain.l0]
      rw [if_pos (by omega), if_pos (by omega), if_pos (by omega), rdT, wrap_up hi (by omega)]
      by_cases c1 : ((ts.getD i zT).f3.length : Int) > 0
      · rw [if_pos c1, if_pos (Or.inl c1)]; rfl
      · rw [if_neg c1]
        by_cases c2 : (ts.getD i zT).f4 = 0
        · rw [if_pos c2, if_neg (fun h => h.elim c1 (fun h => h c2))]; rfl
        · rw [if_neg c2, if_pos (Or.inr c2)]; rfl)
    (Ev.step (f := fun k => net_Plain.l1 k ps (ps.length : Int) ((0 : Nat) : Int) nm ps ts) (fun k => by simp only [net_Plain.l0]; rw [if_neg (by omega)]; rfl) h1)
theorem ordinary_ev (nm : ByteArray) {ps : List Pla} {ts : List Tra} (hT : Thin ts) : Ev (fun k => net_Ordinary.f k nm ps ts) (ordinaryS (validS nm ps ts) ts) := by
  unfold net_Ordinary.f ordinaryS
  by_cases c : (ts.all ordB) = true
  · have c2 : (ts.all fun t => (t.f1.all fun a => a.f1 == 1) && (t.f2.all fun a => a.f1 == 1)) = true := c
    simp only [c, c2, ↓reduceIte]
    exact valid_ev nm hT
  · have c2 : ¬ (ts.all fun t => (t.f1.all fun a => a.f1 == 1) && (t.f2.all fun a => a.f1 == 1)) = true := c
    simp only [c, c2]
    exact Ev.some _
end Go.Proofs.Ytplljicodflagaa.Pl
/- What the program's functions over nets answer: what the arcs of a list say. -/
namespace Go.Proofs.Ytplljicodflagaa.Pl
set_option linter.unusedVariables false
open Go.RowKit Go.Proofs.Ytplljicodflagaa.P Go.Proofs.YtplljicodflagaaW.PrintWords Go.Proofs.YtplljicodflagaaW.PrintMore

theorem weight_ev (l : List Ac) (p : Int) (hl : l.length ≤ 1000000) : Ev (fun k => net_weight.f k l p) (weightS l p) :=
  Ev_loop (L := fun k i => net_weight.l0 k p l (l.length : Int) (i : Int)) 1 _ (fun k i hi => by
    simp only [net_weight.l0]
    rw [if_pos (by omega), if_pos (by omega), if_pos (by omega), rdA, wrap_up hi (by omega)]
    by_cases c : (l.getD i zA).f0 = p
    · rw [if_pos c, if_pos c]; rfl
    · rw [if_neg c, if_neg c]; rfl) (Ev.one (fun k => by simp only [net_weight.l0]; rw [if_neg (by omega)]))
end Go.Proofs.Ytplljicodflagaa.Pl
/- The places of a list that a test takes, one by one. -/
namespace Go.Proofs.Ytplljicodflagaa.Pl
open Go.RowKit
theorem filter_len (q : Nat → Bool) (i : Nat) : (((List.range i).filter q).map (fun t : Nat => (t : Int))).length ≤ i := by
  rw [List.length_map]
  exact Nat.le_trans (List.length_filter_le _ _) (by rw [List.length_range]; exact Nat.le_refl _)
theorem filter_next (q : Nat → Bool) (i : Nat) : ((List.range (i + 1)).filter q).map (fun t : Nat => (t : Int)) = if q i = true then ((List.range i).filter q).map (fun t : Nat => (t : Int)) ++ [(i : Int)] else ((List.range i).filter q).map (fun t : Nat => (t : Int)) := by
  rw [filter_range_succ]
  by_cases h : q i = true
  · rw [if_pos h, if_pos h, List.map_append]; rfl
  · rw [if_neg h, if_neg h]
end Go.Proofs.Ytplljicodflagaa.Pl
/- What the program's functions over nets answer: neighbours. -/
namespace Go.Proofs.Ytplljicodflagaa.Pl
set_option linter.unusedVariables false
open Go.RowKit Go.Proofs.Ytplljicodflagaa.P Go.Proofs.YtplljicodflagaaW.PrintWords Go.Proofs.YtplljicodflagaaW.PrintMore

theorem consumers_ev (nm : ByteArray) {ps : List Pla} {ts : List Tra} (p : Int) (ht : ts.length ≤ 1000000) (hT : Thin ts) : Ev (fun k => net_Consumers.f k nm ps ts p) (consumersS (validS nm ps ts) ts p) := by
  unfold net_Consumers.f consumersS
  refine Ev.bind (valid_ev nm hT) ?_
  by_cases hv : validS nm ps ts = true
  · simp only [hv, ↓reduceIte]
    exact Ev_up (L := fun k i => net_Consumers.l0 k ts p (((List.range i).filter fun t : Nat => decide (weightS (ts.getD t zT).f1 p > 0)).map (fun t : Nat => (t : Int))) (i : Int)) (n := ts.length)
      (fun i hi hr => Ev.step (f := fun k => (net_weight.f k (ts.getD i zT).f1 p).bind fun t => if t > 0 then net_Consumers.l0 k ts p ((((List.range i).filter fun t : Nat => decide (weightS (ts.getD t zT).f1 p > 0)).map (fun t : Nat => (t : Int))) ++ [(i : Int)]) ((i + 1 : Nat) : Int) else net_Consumers.l0 k ts p (((List.range i).filter fun t : Nat => decide (weightS (ts.getD t zT).f1 p > 0)).map (fun t : Nat => (t : Int))) ((i + 1 : Nat) : Int)) (fun k => by
        simp only [net_Consumers.l0]
        have := filter_len (fun t : Nat => decide (weightS (ts.getD t zT).f1 p > 0)) i
        rw [if_pos (by omega), if_pos (by omega), if_pos (by omega), rdT, wrap_up hi (by omega)]) (by
          refine Ev.bind (weight_ev _ p (hT.at hi).2.1) ?_
          rw [filter_next] at hr
          by_cases c : weightS (ts.getD i zT).f1 p > 0
          · simp only [c, decide_true, ↓reduceIte] at hr ⊢; exact hr
          · simp only [c, decide_false, ↓reduceIte, Bool.false_eq_true] at hr ⊢; exact hr))
      (Ev.one (fun k => by simp only [net_Consumers.l0]; rw [if_neg (by omega)]))
  · simp only [hv]; exact Ev.some _

end Go.Proofs.Ytplljicodflagaa.Pl
/- The reference's names. -/
namespace Go.Proofs.Ytplljicodflagaa.Pl
open Go.RowKit Go.Proofs.Ytplljicodflagaa.P Go.Proofs.YtplljicodflagaaW.PrintWords Go.Proofs.YtplljicodflagaaW.PrintMore

/-! ### Name -/
set_option linter.unusedSimpArgs false in
theorem refname_step (k : Nat) (s : ByteArray) (i : Nat) (hi : i < s.size) (hs : s.size ≤ 1000000) :
    petrinetref09_Name.l0 (k + 1) s (i : Int) = stepO (if nameC (i : Int) (bt s (i : Int)) = true then none else some false) (petrinetref09_Name.l0 k s ((i + 1 : Nat) : Int)) := by
  simp only [petrinetref09_Name.l0]
  rw [if_pos (by omega), if_pos (by omega), wrap_up hi (by omega)]
  unfold nameC
  generalize bt s (i : Int) = c
  have e95 : (c == 95) = decide (c = 95) := by rw [Bool.eq_iff_iff]; simp
  have e46 : (c == 46) = decide (c = 46) := by rw [Bool.eq_iff_iff]; simp
  rw [e95, e46]
  have b7 : (0 : Int) < (i : Int) ↔ ¬ (i : Int) = 0 := by omega
  by_cases a1 : c ≥ 97 <;> by_cases a2 : c ≤ 122 <;> by_cases a3 : c = 95 <;> by_cases a4 : c ≥ 48 <;> by_cases a5 : c ≤ 57 <;> by_cases a6 : c = 46 <;> by_cases a7 : (i : Int) = 0 <;>
    first
    | (exfalso; omega)
    | (subst a3; simp [stepO]; done)
    | (subst a6
       have d7 : i = 0 := by omega
       simp [stepO, d7]; done)
    | (subst a6
       have d7 : ¬ i = 0 := by omega
       have d8 : 0 < i := by omega
       simp [stepO, d7, d8]; done)
    | (simp only [b7, a1, a2, a3, a4, a5, a6, a7, ge_iff_le.1 a1, ↓reduceIte, decide_true, decide_false, Bool.true_and, Bool.false_and, Bool.and_true, Bool.and_false, Bool.or_true, Bool.true_or, Bool.or_false, Bool.false_or, Bool.false_eq_true, not_true_eq_false, not_false_eq_true, stepO]; done)
    | (have c1 : ¬ 97 ≤ c := a1
       simp only [b7, a1, c1, a2, a3, a4, a5, a6, a7, ↓reduceIte, decide_true, decide_false, Bool.true_and, Bool.false_and, Bool.and_true, Bool.and_false, Bool.or_true, Bool.true_or, Bool.or_false, Bool.false_or, Bool.false_eq_true, not_true_eq_false, not_false_eq_true, stepO]; first | done | rfl)
theorem refname_ev (s : ByteArray) : Ev (fun k => petrinetref09_Name.f k s) (nameB s) := by
  have e0 : ∀ k, petrinetref09_Name.f k s = petrinetref09_Name.j0 k s (decide ((s.size : Int) < 1 ∨ (s.size : Int) > 16)) := fun k => by
    unfold petrinetref09_Name.f
    exact ite_or _ _ (fun b => petrinetref09_Name.j0 k s b)
  refine Ev.congr e0 ?_
  by_cases c : (s.size : Int) < 1 ∨ (s.size : Int) > 16
  · rw [decide_eq_true c]
    have hf : nameB s = false := by
      unfold nameB
      rcases c with c | c
      · rw [decide_eq_false (show ¬ 1 ≤ s.size by omega)]; rfl
      · rw [decide_eq_false (show ¬ s.size ≤ 16 by omega)]; simp
    rw [hf]
    exact Ev.one (fun k => by simp only [petrinetref09_Name.j0, ↓reduceIte])
  · rw [decide_eq_false c]
    refine Ev.step (f := fun k => petrinetref09_Name.l0 k s ((0 : Nat) : Int)) (fun k => by simp only [petrinetref09_Name.j0]; rw [if_neg Bool.false_ne_true]; rfl) ?_
    have h := Ev_loop (L := fun k i => petrinetref09_Name.l0 k s (i : Int)) (n := s.size) 1 (fun i => if nameC (i : Int) (bt s (i : Int)) = true then none else some false) (e := true)
      (fun k i hi => refname_step k s i hi (by omega)) (Ev.one (fun k => by simp only [petrinetref09_Name.l0]; rw [if_neg (by omega)]))
    have e : first (fun i => if nameC (i : Int) (bt s (i : Int)) = true then none else some false) true s.size = nameB s := by
      rcases first_cases (fun i => if nameC (i : Int) (bt s (i : Int)) = true then none else some false) true s.size with ⟨h1, h2⟩ | ⟨j, h1, h2, _⟩
      · rw [h1]
        exact (nameB_yes (by omega) (by omega) (fun i hi => of_ite_none (h2 i hi))).symm
      · obtain ⟨h3, h4⟩ := of_ite_some h2
        rw [← h4]
        exact (nameB_no h1 (Bool.eq_false_iff.2 h3)).symm
    rw [← e]
    exact h

end Go.Proofs.Ytplljicodflagaa.Pl
/- The reference's check answers the same. -/
namespace Go.Proofs.Ytplljicodflagaa.Pl
open Go.RowKit Go.Proofs.Ytplljicodflagaa.P Go.Proofs.YtplljicodflagaaW.PrintWords Go.Proofs.YtplljicodflagaaW.PrintMore

/-! ### a place -/
theorem nmE_loop (l : List ByteArray) (s : ByteArray) (h : nameB s = true) : nmE l s = if (l.any fun o => o.toList == s.toList) = true then 6 else 0 := by unfold nmE; rw [if_pos h]
theorem refplace_ev (nm : ByteArray) {ps : List Pla} (ts : List Tra) {i : Nat} (hi : i < ps.length) (hp : ps.length ≤ 1000000) : Ev (fun k => petrinetref09_place.f k nm ps ts (i : Int)) (plR ps i) := by
  have e0 : ∀ k, petrinetref09_place.f k nm ps ts (i : Int) = (petrinetref09_Name.f k (ps.getD i zP).f0).bind fun t => if t = true then petrinetref09_place.l0 k (i : Int) 0 nm ps ts (ps.getD i zP).f0 (ps.getD i zP).f1 (ps.getD i zP).f2 else some 5 := fun k => by
    unfold petrinetref09_place.f
    rw [if_pos (by omega), if_pos (by omega), rdP]
  refine Ev.congr e0 (Ev.bind (refname_ev _) ?_)
  unfold plR
  by_cases hn : nameB (ps.getD i zP).f0 = true
  · simp only [hn, ↓reduceIte]
    have hcap : Ev (fun k => petrinetref09_place.l0 k (i : Int) (i : Int) nm ps ts (ps.getD i zP).f0 (ps.getD i zP).f1 (ps.getD i zP).f2) (placeE (ps.getD i zP).f1 (ps.getD i zP).f2) := by
      refine Ev.stepn 2 (f := fun _ => some (placeE (ps.getD i zP).f1 (ps.getD i zP).f2)) (fun k => ?_) (Ev.some _)
      simp only [petrinetref09_place.l0]
      rw [if_neg (by omega), ite_or _ _ (fun b => petrinetref09_place.j1 (k + 1) b (ps.getD i zP).f0 (ps.getD i zP).f1 (ps.getD i zP).f2)]
      simp only [petrinetref09_place.j1]
      generalize (ps.getD i zP).f1 = x
      generalize (ps.getD i zP).f2 = c
      unfold placeE
      by_cases c1 : c < 0 ∨ c > 1048576
      · rw [decide_eq_true c1, if_pos rfl, if_pos c1]
      · rw [decide_eq_false c1, if_neg Bool.false_ne_true, if_neg c1]
        by_cases c2 : x < 0
        · rw [if_pos c2, if_pos (Or.inl (Or.inl c2))]
        · rw [if_neg c2]
          by_cases c3 : x > 1048576
          · rw [if_pos c3, if_pos (Or.inl (Or.inr c3))]
          · rw [if_neg c3]
            by_cases c4 : c = 0
            · rw [if_pos c4, if_neg (by omega)]
            · rw [if_neg c4]
              by_cases c5 : x > c
              · rw [if_pos c5, if_pos (Or.inr ⟨c4, c5⟩)]
              · rw [if_neg c5, if_neg (by omega)]
    have h := Ev_loop (L := fun k j => petrinetref09_place.l0 k (i : Int) (j : Int) nm ps ts (ps.getD i zP).f0 (ps.getD i zP).f1 (ps.getD i zP).f2) (n := i) 1 (fun j => if (ps.getD j zP).f0.toList = (ps.getD i zP).f0.toList then some 6 else none) (e := placeE (ps.getD i zP).f1 (ps.getD i zP).f2)
      (fun k j hj => by
        simp only [petrinetref09_place.l0]
        rw [if_pos (by omega), if_pos (by omega), if_pos (by omega), rdP, wrap_up hj (by omega)]
        by_cases c : (ps.getD j zP).f0.toList = (ps.getD i zP).f0.toList
        · rw [if_pos c, if_pos c]; rfl
        · rw [if_neg c, if_neg c]; rfl) hcap
    rw [first_any] at h
    have e : (∃ j, j < i ∧ (ps.getD j zP).f0.toList = (ps.getD i zP).f0.toList) ↔ (((ps.take i).map (·.f0)).any fun o => o.toList == (ps.getD i zP).f0.toList) = true := by
      rw [any_take ps (·.f0) _ zP (by omega)]
      simp only [beq_iff_eq]
    rw [nmE_loop _ _ hn]
    by_cases d : ∃ j, j < i ∧ (ps.getD j zP).f0.toList = (ps.getD i zP).f0.toList
    · rw [if_pos d] at h
      rw [if_pos (e.1 d), if_pos (by decide)]
      exact h
    · rw [if_neg d] at h
      rw [if_neg (fun x => d (e.2 x)), if_neg (by decide)]
      exact h
  · simp only [hn]
    have : nmE ((ps.take i).map (·.f0)) (ps.getD i zP).f0 = 5 := by unfold nmE; rw [if_neg hn]
    rw [this, if_pos (by decide)]
    exact Ev.some _

/-! ### arcs -/
theorem refarcs_step (k : Nat) (nm : ByteArray) (ps : List Pla) (ts : List Tra) (l : List Ac) (i : Nat) (hi : i < l.length) (hl : l.length ≤ 1000000) :
    petrinetref09_arcs.l0 (k + 3) l (i : Int) nm ps ts = stepO (arcE (ps.length : Int) l i) (petrinetref09_arcs.l0 k l ((i + 1 : Nat) : Int) nm ps ts) := by
  simp only [petrinetref09_arcs.l0]
  rw [if_pos (by omega), if_pos (by omega), rdA, ite_or _ _ (fun b => petrinetref09_arcs.j1 (k + 2) l (i : Int) b nm ps ts)]
  unfold arcE
  by_cases c1 : (l.getD i zA).f0 < 0 ∨ (l.getD i zA).f0 ≥ (ps.length : Int)
  · rw [decide_eq_true c1, if_pos c1]; simp only [petrinetref09_arcs.j1, ↓reduceIte, stepO]
  · rw [decide_eq_false c1, if_neg c1]
    have e2 : ∀ b : Bool, petrinetref09_arcs.j2 (k + 1) l (i : Int) b nm ps ts = if b = true then some 8 else if (l.getD i zA).f1 < 1 ∨ (l.getD i zA).f1 > 99 then some 9 else petrinetref09_arcs.l0 k l ((i + 1 : Nat) : Int) nm ps ts := by
      intro b
      simp only [petrinetref09_arcs.j2]
      cases b with
      | true => rw [if_pos rfl, if_pos rfl]
      | false => rw [if_neg Bool.false_ne_true, if_neg Bool.false_ne_true, if_pos (by omega), if_pos (by omega), rdA, wrap_up hi (by omega), ite_or2]
    simp only [petrinetref09_arcs.j1]
    rw [if_neg Bool.false_ne_true]
    by_cases c2 : 0 < i
    · rw [if_pos (by omega), if_pos (by omega), if_pos (by omega), if_pos (by rw [wrap_ok (by omega) (by omega)]; omega), if_pos (by rw [wrap_ok (by omega) (by omega)]; omega), wrap_ok (x := (i : Int) - 1) (by omega) (by omega), show ((i : Int) - 1) = ((i - 1 : Nat) : Int) by omega, rdA, rdA, e2]
      by_cases c3 : (l.getD (i - 1) zA).f0 ≥ (l.getD i zA).f0
      · rw [decide_eq_true (show (l.getD i zA).f0 ≤ (l.getD (i - 1) zA).f0 from c3), if_pos rfl, if_pos ⟨c2, c3⟩]; rfl
      · rw [decide_eq_false (show ¬ (l.getD i zA).f0 ≤ (l.getD (i - 1) zA).f0 from c3), if_neg Bool.false_ne_true, if_neg (show ¬ (0 < i ∧ (l.getD (i - 1) zA).f0 ≥ (l.getD i zA).f0) from fun h => c3 h.2)]
        by_cases d : (l.getD i zA).f1 < 1 ∨ (l.getD i zA).f1 > 99
        · rw [if_pos d, if_pos d]; rfl
        · rw [if_neg d, if_neg d]; rfl
    · rw [if_neg (by omega), e2, if_neg Bool.false_ne_true, if_neg (show ¬ (0 < i ∧ (l.getD (i - 1) zA).f0 ≥ (l.getD i zA).f0) from fun h => c2 h.1)]
      by_cases d : (l.getD i zA).f1 < 1 ∨ (l.getD i zA).f1 > 99
      · rw [if_pos d, if_pos d]; rfl
      · rw [if_neg d, if_neg d]; rfl
theorem refarcs_ev (nm : ByteArray) (ps : List Pla) (ts : List Tra) (l : List Ac) (hl : l.length ≤ 1000000) : Ev (fun k => petrinetref09_arcs.f k nm ps ts l) (arcsE (ps.length : Int) l) :=
  Ev_loop (L := fun k i => petrinetref09_arcs.l0 k l (i : Int) nm ps ts) 3 (arcE (ps.length : Int) l) (fun k i hi => refarcs_step k nm ps ts l i hi hl)
    (Ev.one (fun k => by simp only [petrinetref09_arcs.l0]; rw [if_neg (by omega)]))

/-! ### a transition -/
theorem reftrans_ev (nm : ByteArray) {ps : List Pla} {ts : List Tra} {i : Nat} (hi : i < ts.length) (hp : ps.length ≤ 1000000) (ht : ts.length ≤ 1000000) (hT : Thin ts) : Ev (fun k => petrinetref09_trans.f k nm ps ts (i : Int)) (trR ps ts i) := by
  have e0 : ∀ k, petrinetref09_trans.f k nm ps ts (i : Int) = (petrinetref09_Name.f k (ts.getD i zT).f0).bind fun t => if t = true then petrinetref09_trans.l0 k (i : Int) 0 nm ps ts (ts.getD i zT).f0 (ts.getD i zT).f1 (ts.getD i zT).f2 (ts.getD i zT).f3 (ts.getD i zT).f4 else some 5 := fun k => by
    unfold petrinetref09_trans.f
    rw [if_pos (by omega), if_pos (by omega), rdT]
  refine Ev.congr e0 (Ev.bind (refname_ev _) ?_)
  unfold trR
  have hth := hT.at hi
  generalize ts.getD i zT = t at hth
  by_cases hn : nameB t.f0 = true
  · simp only [hn, ↓reduceIte]
    have h2 : Ev (fun k => petrinetref09_trans.l1 k (i : Int) (i : Int) nm ps ts t.f0 t.f1 t.f2 t.f3 t.f4) (transE (ps.length : Int) t) := by
      refine Ev.step (f := fun k => petrinetref09_trans.j2 k (decide (t.f4 < 0 ∨ t.f4 > 9)) nm ps ts t.f0 t.f1 t.f2 t.f3 t.f4) (fun k => ?_) ?_
      · simp only [petrinetref09_trans.l1]
        rw [if_neg (by omega)]
        exact ite_or _ _ (fun b => petrinetref09_trans.j2 k b nm ps ts t.f0 t.f1 t.f2 t.f3 t.f4)
      · unfold transE
        by_cases c : t.f4 < 0 ∨ t.f4 > 9
        · rw [decide_eq_true c, if_pos c]
          exact Ev.one (fun k => by simp only [petrinetref09_trans.j2, ↓reduceIte])
        · rw [decide_eq_false c, if_neg c]
          refine Ev.step (f := fun k => (petrinetref09_arcs.f k nm ps ts t.f1).bind fun a => if a = 0 then ((petrinetref09_arcs.f k nm ps ts t.f2).bind fun b => if b = 0 then ((petrinetref09_arcs.f k nm ps ts t.f3).bind fun c => some c) else some b) else some a) (fun k => by simp only [petrinetref09_trans.j2]; rw [if_neg Bool.false_ne_true]) ?_
          refine Ev.bind (refarcs_ev nm ps ts _ hth.2.1) ?_
          by_cases d1 : arcsE (ps.length : Int) t.f1 = 0
          · rw [if_neg (by simpa using d1)]
            simp only [d1, ↓reduceIte]
            refine Ev.bind (refarcs_ev nm ps ts _ hth.2.2.1) ?_
            by_cases d2 : arcsE (ps.length : Int) t.f2 = 0
            · rw [if_neg (by simpa using d2)]
              simp only [d2, ↓reduceIte]
              exact Ev.bind (refarcs_ev nm ps ts _ hth.2.2.2) (Ev.some _)
            · rw [if_pos d2]
              simp only [d2, ↓reduceIte]
              exact Ev.some _
          · rw [if_pos d1]
            simp only [d1, ↓reduceIte]
            exact Ev.some _
    have h1 := Ev_loop (L := fun k j => petrinetref09_trans.l1 k (i : Int) (j : Int) nm ps ts t.f0 t.f1 t.f2 t.f3 t.f4) (n := i) 1 (fun j => if (ts.getD j zT).f0.toList = t.f0.toList then some 6 else none) (e := transE (ps.length : Int) t)
      (fun k j hj => by
        simp only [petrinetref09_trans.l1]
        rw [if_pos (by omega), if_pos (by omega), if_pos (by omega), rdT, wrap_up hj (by omega)]
        by_cases c : (ts.getD j zT).f0.toList = t.f0.toList
        · rw [if_pos c, if_pos c]; rfl
        · rw [if_neg c, if_neg c]; rfl) h2
    have h0 := Ev_loop (L := fun k j => petrinetref09_trans.l0 k (i : Int) (j : Int) nm ps ts t.f0 t.f1 t.f2 t.f3 t.f4) (n := ps.length) 1 (fun j => if (ps.getD j zP).f0.toList = t.f0.toList then some 6 else none) (e := first (fun j => if (ts.getD j zT).f0.toList = t.f0.toList then some 6 else none) (transE (ps.length : Int) t) i)
      (fun k j hj => by
        simp only [petrinetref09_trans.l0]
        rw [if_pos (by omega), if_pos (by omega), rdP, wrap_up hj (by omega)]
        by_cases c : (ps.getD j zP).f0.toList = t.f0.toList
        · rw [if_pos c, if_pos c]; rfl
        · rw [if_neg c, if_neg c]; rfl)
      (Ev.step (f := fun k => petrinetref09_trans.l1 k (i : Int) ((0 : Nat) : Int) nm ps ts t.f0 t.f1 t.f2 t.f3 t.f4) (fun k => by simp only [petrinetref09_trans.l0]; rw [if_neg (by omega)]; rfl) h1)
    rw [first_any, first_any] at h0
    have e : (((ps.map (·.f0)) ++ (ts.take i).map (·.f0)).any fun o => o.toList == t.f0.toList) = true ↔ (∃ j, j < ps.length ∧ (ps.getD j zP).f0.toList = t.f0.toList) ∨ (∃ j, j < i ∧ (ts.getD j zT).f0.toList = t.f0.toList) := by
      rw [List.any_append, Bool.or_eq_true, any_take ts (·.f0) _ zT (by omega), any_all ps (·.f0) _ zP]
      simp only [beq_iff_eq]
    rw [nmE_loop _ _ hn]
    by_cases d : ∃ j, j < ps.length ∧ (ps.getD j zP).f0.toList = t.f0.toList
    · rw [if_pos d] at h0
      rw [if_pos (e.2 (Or.inl d)), if_pos (by decide)]
      exact h0
    · rw [if_neg d] at h0
      by_cases d2 : ∃ j, j < i ∧ (ts.getD j zT).f0.toList = t.f0.toList
      · rw [if_pos d2] at h0
        rw [if_pos (e.2 (Or.inr d2)), if_pos (by decide)]
        exact h0
      · rw [if_neg d2] at h0
        rw [if_neg (fun x => (e.1 x).elim d d2), if_neg (by decide)]
        exact h0
  · simp only [hn]
    have : nmE (ps.map (·.f0) ++ (ts.take i).map (·.f0)) t.f0 = 5 := by unfold nmE; rw [if_neg hn]
    rw [this, if_pos (by decide)]
    exact Ev.some _

/-! ### the check -/
theorem refcheck_ev (nm : ByteArray) {ps : List Pla} {ts : List Tra} (hT : Thin ts) : Ev (fun k => petrinetref09_Check.f k nm ps ts) (checkS nm ps ts) := by
  unfold petrinetref09_Check.f checkS
  refine Ev.bind (refname_ev nm) ?_
  by_cases h1 : nameB nm = true
  · simp only [h1, ↓reduceIte]
    have e0 : ∀ k, (if (ps.length : Int) < 1 then petrinetref09_Check.j0 k true nm ps ts else if (ps.length : Int) > 24 then petrinetref09_Check.j0 k true nm ps ts else petrinetref09_Check.j0 k (decide ((ts.length : Int) > 24)) nm ps ts) = petrinetref09_Check.j0 k (decide ((ps.length : Int) < 1 ∨ (24 : Int) < (ps.length : Int) ∨ (24 : Int) < (ts.length : Int))) nm ps ts := fun k => by
      rw [ite_or ((ps.length : Int) > 24) _ (fun b => petrinetref09_Check.j0 k b nm ps ts)]
      exact ite_or _ _ (fun b => petrinetref09_Check.j0 k b nm ps ts)
    refine Ev.congr e0 ?_
    by_cases h2 : (ps.length : Int) < 1 ∨ (24 : Int) < (ps.length : Int) ∨ (24 : Int) < (ts.length : Int)
    · rw [decide_eq_true h2, if_pos h2]
      exact Ev.one (fun k => by simp only [petrinetref09_Check.j0, ↓reduceIte])
    · rw [decide_eq_false h2, if_neg h2]
      refine Ev.step (f := fun k => petrinetref09_Check.l0 k ((0 : Nat) : Int) nm ps ts) (fun k => by simp only [petrinetref09_Check.j0]; rw [if_neg Bool.false_ne_true]; rfl) ?_
      have ht := Ev_first (L := fun k i => petrinetref09_Check.l1 k (i : Int) nm ps ts) (n := ts.length) (tF ps ts) (e := ((0 : Int), (0 : Int)))
        (fun i hi hf r hr => Ev.step (f := fun k => (petrinetref09_trans.f k nm ps ts (i : Int)).bind fun t => if t = 0 then petrinetref09_Check.l1 k ((i + 1 : Nat) : Int) nm ps ts else some (t, (ps.length : Int) + (i : Int))) (fun k => by
          simp only [petrinetref09_Check.l1]
          rw [if_pos (by omega), wrap_up hi (by omega), wrap_ok (x := (ps.length : Int) + (i : Int)) (by omega) (by omega)]) (by
            refine Ev.bind (reftrans_ev nm hi (by omega) (by omega) hT) ?_
            have hz := of_ite_none hf
            simp only [hz, ↓reduceIte]
            exact hr))
        (fun i r hi hf => Ev.step (f := fun k => (petrinetref09_trans.f k nm ps ts (i : Int)).bind fun t => if t = 0 then petrinetref09_Check.l1 k ((i + 1 : Nat) : Int) nm ps ts else some (t, (ps.length : Int) + (i : Int))) (fun k => by
          simp only [petrinetref09_Check.l1]
          rw [if_pos (by omega), wrap_up hi (by omega), wrap_ok (x := (ps.length : Int) + (i : Int)) (by omega) (by omega)]) (by
            refine Ev.bind (reftrans_ev nm hi (by omega) (by omega) hT) ?_
            obtain ⟨hz, rfl⟩ := of_ite_some hf
            simp only [hz, ↓reduceIte]
            exact Ev.some _))
        (Ev.one (fun k => by simp only [petrinetref09_Check.l1]; rw [if_neg (by omega)]))
      exact Ev_first (L := fun k i => petrinetref09_Check.l0 k (i : Int) nm ps ts) (n := ps.length) (pF ps) (e := first (tF ps ts) (0, 0) ts.length)
        (fun i hi hf r hr => Ev.step (f := fun k => (petrinetref09_place.f k nm ps ts (i : Int)).bind fun t => if t = 0 then petrinetref09_Check.l0 k ((i + 1 : Nat) : Int) nm ps ts else some (t, (i : Int))) (fun k => by
          simp only [petrinetref09_Check.l0]
          rw [if_pos (by omega), wrap_up hi (by omega)]) (by
            refine Ev.bind (refplace_ev nm ts hi (by omega)) ?_
            have hz := of_ite_none hf
            simp only [hz, ↓reduceIte]
            exact hr))
        (fun i r hi hf => Ev.step (f := fun k => (petrinetref09_place.f k nm ps ts (i : Int)).bind fun t => if t = 0 then petrinetref09_Check.l0 k ((i + 1 : Nat) : Int) nm ps ts else some (t, (i : Int))) (fun k => by
          simp only [petrinetref09_Check.l0]
          rw [if_pos (by omega), wrap_up hi (by omega)]) (by
            refine Ev.bind (refplace_ev nm ts hi (by omega)) ?_
            obtain ⟨hz, rfl⟩ := of_ite_some hf
            simp only [hz, ↓reduceIte]
            exact Ev.some _))
        (Ev.step (f := fun k => petrinetref09_Check.l1 k ((0 : Nat) : Int) nm ps ts) (fun k => by simp only [petrinetref09_Check.l0]; rw [if_neg (by omega)]; rfl) ht)
  · simp only [h1]; exact Ev.some _
theorem refvalid_ev (nm : ByteArray) {ps : List Pla} {ts : List Tra} (hT : Thin ts) : Ev (fun k => petrinetref09_Valid.f k nm ps ts) (validS nm ps ts) := by
  unfold petrinetref09_Valid.f
  exact Ev.bind (refcheck_ev nm hT) (Ev.some _)
end Go.Proofs.Ytplljicodflagaa.Pl
/- What the reference's functions over lists of arcs answer. -/
namespace Go.Proofs.Ytplljicodflagaa.Pl
open Go.RowKit Go.Proofs.Ytplljicodflagaa.P Go.Proofs.YtplljicodflagaaW.PrintWords Go.Proofs.YtplljicodflagaaW.PrintMore
end Go.Proofs.Ytplljicodflagaa.Pl
/- Whether a net is plain, ordinary: the reference's texts. -/
namespace Go.Proofs.Ytplljicodflagaa.Pl
open Go.RowKit Go.Proofs.Ytplljicodflagaa.P Go.Proofs.YtplljicodflagaaW.PrintWords Go.Proofs.YtplljicodflagaaW.PrintMore

end Go.Proofs.Ytplljicodflagaa.Pl
/- The reference's targets of a list of arcs. -/
namespace Go.Proofs.Ytplljicodflagaa.Pl
open Go.RowKit Go.Proofs.Ytplljicodflagaa.P Go.Proofs.YtplljicodflagaaW.PrintWords Go.Proofs.YtplljicodflagaaW.PrintMore

theorem reftargets_ev (l : List Ac) (hl : l.length ≤ 1000000) : Ev (fun k => petrinetref09_Targets.f k l) (l.map (·.f0)) := by
  have h := Ev_up (L := fun k i => petrinetref09_Targets.l0 k l ((l.take i).map (·.f0)) (i : Int)) (n := l.length) (r := l.map (·.f0))
    (fun i hi hr => Ev.step (fun k => by
      simp only [petrinetref09_Targets.l0]
      rw [if_pos (by omega), if_pos (by omega), if_pos (by simp only [List.length_map, List.length_take]; omega), rdA, wrap_up hi (by omega), ← take_map_succ l (fun a => a.f0) zA hi]) hr)
    (Ev.one (fun k => by simp only [petrinetref09_Targets.l0]; rw [if_neg (by omega), List.take_length]))
  unfold petrinetref09_Targets.f
  simpa using h
end Go.Proofs.Ytplljicodflagaa.Pl
/- Producers and consumers, the reference's. -/
namespace Go.Proofs.Ytplljicodflagaa.Pl
open Go.RowKit Go.Proofs.Ytplljicodflagaa.P Go.Proofs.YtplljicodflagaaW.PrintWords Go.Proofs.YtplljicodflagaaW.PrintMore

end Go.Proofs.Ytplljicodflagaa.Pl
/- Plain lemmas: loops that end early, lists told by their places. -/
namespace Go.Proofs.Ytplljicodflagaa.Pl
open Go.RowKit Go.Proofs.YtplljicodflagaaW.PrintWords Go.Proofs.YtplljicodflagaaW.PrintMore

theorem dec_t {p : Prop} {i : Decidable p} (h : p) : @decide p i = true := decide_eq_true h
theorem dec_f {p : Prop} {i : Decidable p} (h : ¬ p) : @decide p i = false := decide_eq_false h
theorem of_dec {p : Prop} {i : Decidable p} (h : @decide p i = true) : p := of_decide_eq_true h
/-- A loop that counts up to n and answers a at the first place with c. -/
theorem Ev_ex {ρ : Type} {L : Nat → Nat → Option ρ} {n : Nat} (c : Nat → Prop) {a e r : ρ}
    (yes : ∀ i, i < n → c i → Ev (fun k => L k i) a)
    (no : ∀ i, i < n → ¬ c i → ∀ r, Ev (fun k => L k (i + 1)) r → Ev (fun k => L k i) r)
    (fin : (∀ j, j < n → ¬ c j) → Ev (fun k => L k n) e) (ha : (∃ j, j < n ∧ c j) → r = a) (he : (∀ j, j < n → ¬ c j) → r = e) : Ev (fun k => L k 0) r := by
  have go : ∀ d i, i + d = n → (∀ j, j < i → ¬ c j) → Ev (fun k => L k i) r := by
    intro d
    induction d with
    | zero =>
      intro i hi hb
      obtain rfl : i = n := by omega
      rw [he hb]
      exact fin hb
    | succ d ih =>
      intro i hi hb
      by_cases h : c i
      · rw [ha ⟨i, by omega, h⟩]
        exact yes i (by omega) h
      · exact no i (by omega) h _ (ih (i + 1) (by omega) (fun j hj => by
          by_cases e : j = i
          · rw [e]; exact h
          · exact hb j (by omega)))
  exact go n 0 (by omega) (fun j h => by omega)

/-- A list by its places. -/
abbrev mr {α : Type} (n : Nat) (f : Nat → α) : List α := (List.range n).map f
theorem mr_get {α : Type} {n v : Nat} (f : Nat → α) (d : α) (h : v < n) : (mr n f).getD v d = f v := by
  rw [List.getD_eq_getElem?_getD, List.getElem?_map, List.getElem?_range h]; rfl
theorem mr_len {α : Type} (n : Nat) (f : Nat → α) : (mr n f).length = n := by rw [List.length_map, List.length_range]
theorem mr_congr {α : Type} {n : Nat} {f g : Nat → α} (h : ∀ v, v < n → f v = g v) : mr n f = mr n g := List.map_congr_left fun v hv => h v (List.mem_range.1 hv)
theorem mr_set {α : Type} {n p : Nat} (f : Nat → α) (x : α) : (mr n f).set p x = mr n (fun v => if v = p then x else f v) := by
  refine List.ext_getElem? fun i => ?_
  rw [List.getElem?_set, List.getElem?_map, List.getElem?_map, List.length_map, List.length_range]
  by_cases hi : i < n
  · rw [List.getElem?_range hi]
    by_cases e : p = i
    · subst e; simp [hi]
    · simp [e, Ne.symm e]
  · rw [List.getElem?_eq_none (by simpa using hi)]
    by_cases e : p = i
    · subst e; simp [hi]
    · simp [e]
theorem mr_rep {α : Type} (n : Nat) (x : α) : List.replicate n x = mr n (fun _ => x) := by
  refine List.ext_getElem (by simp) fun i h1 h2 => by simp
end Go.Proofs.Ytplljicodflagaa.Pl
/- The classes of a net: what they are; state machines, marked graphs, purity by both texts. -/
namespace Go.Proofs.Ytplljicodflagaa.Pl
set_option linter.unusedVariables false
open Go.RowKit Go.Proofs.Ytplljicodflagaa.P Go.Proofs.YtplljicodflagaaW.PrintWords Go.Proofs.YtplljicodflagaaW.PrintMore

def basicS (v : Bool) (ps : List Pla) (ts : List Tra) : Bool := if plainS v ps ts = true then ordinaryS v ts else false
theorem plain_v {v : Bool} {ps : List Pla} {ts : List Tra} (h : plainS v ps ts = true) : v = true := by
  rw [plain_swap] at h
  by_cases hv : v = true
  · exact hv
  · rw [if_neg hv] at h; cases h
theorem basic_v {v : Bool} {ps : List Pla} {ts : List Tra} (h : basicS v ps ts = true) : v = true := by
  unfold basicS at h
  by_cases hp : plainS v ps ts = true
  · exact plain_v hp
  · rw [if_neg hp] at h; cases h
section
variable {nm : ByteArray} {ps : List Pla} {ts : List Tra}
theorem simple_ev (hp : ps.length ≤ 1000000) (ht : ts.length ≤ 1000000) (hT : Thin ts) : Ev (fun k => netclass_simple.f k nm ps ts) (basicS (validS nm ps ts) ps ts) := by
  unfold netclass_simple.f basicS
  refine Ev.bind (plain_ev nm hp ht hT) ?_
  by_cases h : plainS (validS nm ps ts) ps ts = true
  · simp only [h, ↓reduceIte]; exact ordinary_ev nm hT
  · simp only [h]; exact Ev.some _
/-! ### state machines -/
/-! ### marked graphs -/
end
end Go.Proofs.Ytplljicodflagaa.Pl
/- What a valid net is. -/
namespace Go.Proofs.Ytplljicodflagaa.Pl
open Go.RowKit Go.Proofs.Ytplljicodflagaa.P Go.Proofs.YtplljicodflagaaW.PrintWords Go.Proofs.YtplljicodflagaaW.PrintMore

structure ValidN (nm : ByteArray) (ps : List Pla) (ts : List Tra) : Prop where
  n : nameB nm = true
  p0 : 1 ≤ ps.length
  p : ps.length ≤ 24
  t : ts.length ≤ 24
  pl : ∀ i, i < ps.length → plR ps i = 0
  tr : ∀ i, i < ts.length → trR ps ts i = 0
theorem validS_iff {nm : ByteArray} {ps : List Pla} {ts : List Tra} : validS nm ps ts = true ↔ ValidN nm ps ts := by
  unfold validS checkS
  constructor
  · intro h
    by_cases h1 : nameB nm = true
    · rw [if_pos h1] at h
      by_cases h2 : (ps.length : Int) < 1 ∨ (24 : Int) < (ps.length : Int) ∨ (24 : Int) < (ts.length : Int)
      · rw [if_pos h2] at h; simp at h
      · rw [if_neg h2] at h
        rcases first_cases (pF ps) (first (tF ps ts) (0, 0) ts.length) ps.length with ⟨a1, a2⟩ | ⟨j, a1, a2, _⟩
        · rw [a1] at h
          rcases first_cases (tF ps ts) ((0 : Int), (0 : Int)) ts.length with ⟨b1, b2⟩ | ⟨j, b1, b2, _⟩
          · exact ⟨h1, by omega, by omega, by omega, fun i hi => of_ite_none (a2 i hi), fun i hi => of_ite_none (b2 i hi)⟩
          · obtain ⟨c1, c2⟩ := of_ite_some b2
            rw [← c2] at h
            exact absurd (beq_iff_eq.1 h) c1
        · obtain ⟨c1, c2⟩ := of_ite_some a2
          rw [← c2] at h
          exact absurd (beq_iff_eq.1 h) c1
    · rw [if_neg h1] at h; simp at h
  · rintro ⟨h1, h2, h3, h4, h5, h6⟩
    rw [if_pos h1, if_neg (by omega), first_all (fun j hj => by unfold pF; rw [if_pos (h5 j hj)]), first_all (fun j hj => by unfold tF; rw [if_pos (h6 j hj)])]
    rfl
section
variable {nm : ByteArray} {ps : List Pla} {ts : List Tra} (h : ValidN nm ps ts)
include h
theorem ValidN.trName {i : Nat} (hi : i < ts.length) : nmE (ps.map (·.f0) ++ (ts.take i).map (·.f0)) (ts.getD i zT).f0 = 0 ∧ transE (ps.length : Int) (ts.getD i zT) = 0 := by
  have := h.tr i hi
  unfold trR at this
  by_cases c : nmE (ps.map (·.f0) ++ (ts.take i).map (·.f0)) (ts.getD i zT).f0 = 0
  · rw [if_neg (by simpa using c)] at this; exact ⟨c, this⟩
  · rw [if_pos c] at this; exact absurd this c
theorem ValidN.arcs {i : Nat} (hi : i < ts.length) : (0 ≤ (ts.getD i zT).f4 ∧ (ts.getD i zT).f4 ≤ 9) ∧ arcsE (ps.length : Int) (ts.getD i zT).f1 = 0 ∧ arcsE (ps.length : Int) (ts.getD i zT).f2 = 0 ∧ arcsE (ps.length : Int) (ts.getD i zT).f3 = 0 := by
  have := (h.trName hi).2
  unfold transE at this
  by_cases c : (ts.getD i zT).f4 < 0 ∨ (ts.getD i zT).f4 > 9
  · rw [if_pos c] at this; exact absurd this (by decide)
  · rw [if_neg c] at this
    by_cases c1 : arcsE (ps.length : Int) (ts.getD i zT).f1 = 0
    · rw [if_neg (by simpa using c1)] at this
      by_cases c2 : arcsE (ps.length : Int) (ts.getD i zT).f2 = 0
      · rw [if_neg (by simpa using c2)] at this; exact ⟨by omega, c1, c2, this⟩
      · rw [if_pos c2] at this; exact absurd this c2
    · rw [if_pos c1] at this; exact absurd this c1
end
theorem arcE_none {np : Int} {l : List Ac} {i : Nat} (h : arcE np l i = none) : 0 ≤ (l.getD i zA).f0 ∧ (l.getD i zA).f0 < np ∧ (0 < i → (l.getD (i - 1) zA).f0 < (l.getD i zA).f0) ∧ 1 ≤ (l.getD i zA).f1 ∧ (l.getD i zA).f1 ≤ 99 := by
  unfold arcE at h
  by_cases c1 : (l.getD i zA).f0 < 0 ∨ (l.getD i zA).f0 ≥ np
  · rw [if_pos c1] at h; cases h
  · rw [if_neg c1] at h
    by_cases c2 : 0 < i ∧ (l.getD (i - 1) zA).f0 ≥ (l.getD i zA).f0
    · rw [if_pos c2] at h; cases h
    · rw [if_neg c2] at h
      by_cases c3 : (l.getD i zA).f1 < 1 ∨ (l.getD i zA).f1 > 99
      · rw [if_pos c3] at h; cases h
      · exact ⟨by omega, by omega, fun hi => Int.not_le.1 fun hc => c2 ⟨hi, hc⟩, by omega, by omega⟩
theorem arcE_some {np : Int} {l : List Ac} {i : Nat} {r : Int} (h : arcE np l i = some r) : r ≠ 0 := by
  unfold arcE at h
  by_cases c1 : (l.getD i zA).f0 < 0 ∨ (l.getD i zA).f0 ≥ np
  · rw [if_pos c1] at h; cases h; decide
  · rw [if_neg c1] at h
    by_cases c2 : 0 < i ∧ (l.getD (i - 1) zA).f0 ≥ (l.getD i zA).f0
    · rw [if_pos c2] at h; cases h; decide
    · rw [if_neg c2] at h
      by_cases c3 : (l.getD i zA).f1 < 1 ∨ (l.getD i zA).f1 > 99
      · rw [if_pos c3] at h; cases h; decide
      · rw [if_neg c3] at h; cases h
theorem arcsE_zero {np : Int} {l : List Ac} (h : arcsE np l = 0) : ∀ i, i < l.length → 0 ≤ (l.getD i zA).f0 ∧ (l.getD i zA).f0 < np ∧ (0 < i → (l.getD (i - 1) zA).f0 < (l.getD i zA).f0) ∧ 1 ≤ (l.getD i zA).f1 ∧ (l.getD i zA).f1 ≤ 99 := by
  intro i hi
  unfold arcsE at h
  rcases first_cases (arcE np l) 0 l.length with ⟨_, h2⟩ | ⟨j, _, h2, _⟩
  · exact arcE_none (h2 i hi)
  · rw [h] at h2
    exact absurd rfl (arcE_some h2)
theorem arcs_lt {np : Int} {l : List Ac} (h : arcsE np l = 0) {i j : Nat} (hij : i < j) (hj : j < l.length) : (l.getD i zA).f0 < (l.getD j zA).f0 := by
  obtain ⟨d, rfl⟩ : ∃ d, j = i + 1 + d := ⟨j - (i + 1), by omega⟩
  induction d with
  | zero => have := (arcsE_zero h (i + 1) hj).2.2.1 (by omega); simpa using this
  | succ d ih =>
    have h1 := ih (by omega) (by omega)
    have h2 := (arcsE_zero h (i + 1 + (d + 1)) hj).2.2.1 (by omega)
    rw [show i + 1 + (d + 1) - 1 = i + 1 + d by omega] at h2
    omega
/-- The weight of a place in a list without errors: positive exactly for the places of the list. -/
theorem weight_pos {np : Int} {l : List Ac} (h : arcsE np l = 0) (p : Int) : weightS l p > 0 ↔ p ∈ l.map (·.f0) := by
  unfold weightS
  rcases first_cases (fun i => if (l.getD i zA).f0 = p then some (l.getD i zA).f1 else none) 0 l.length with ⟨h1, h2⟩ | ⟨j, h1, h2, _⟩
  · rw [h1]
    constructor
    · intro hh; exact absurd hh (by decide)
    · intro hm
      obtain ⟨a, ha, rfl⟩ := List.mem_map.1 hm
      obtain ⟨i, hi, rfl⟩ := List.getElem_of_mem ha
      have := h2 i hi
      rw [List.getD_eq_getElem?_getD, List.getElem?_eq_getElem hi] at this
      simp at this
  · by_cases c : (l.getD j zA).f0 = p
    · simp only [c, if_true] at h2
      have := arcsE_zero h j h1
      constructor
      · intro _; exact List.mem_map.2 ⟨_, getD_mem l zA h1, c⟩
      · intro _; rw [← Option.some.inj h2]; omega
    · simp only [c, if_false] at h2; cases h2
end Go.Proofs.Ytplljicodflagaa.Pl
/- Free-choice and asymmetric nets, by both texts. -/
namespace Go.Proofs.Ytplljicodflagaa.Pl
set_option linter.unusedVariables false
open Go.RowKit Go.Proofs.Ytplljicodflagaa.P Go.Proofs.YtplljicodflagaaW.PrintWords Go.Proofs.YtplljicodflagaaW.PrintMore

theorem among_ev (l : List Int) (x : Int) (hl : l.length ≤ 1000000) : Ev (fun k => netclass_among.f k l x) (decide (x ∈ l)) := by
  unfold netclass_among.f
  refine Ev_ex (L := fun k i => netclass_among.l0 k x l (l.length : Int) (i : Int)) (n := l.length) (fun i => rd l (i : Int) = x) (a := true) (e := false) (fun i hi hc => Ev.one fun k => ?_) (fun i hi hc r hr => Ev.step (fun k => ?_) hr) (fun _ => Ev.one fun k => ?_) (fun ⟨j, hj, hn⟩ => dec_t (by rw [← hn]; exact rd_mem (by omega) (by omega))) (fun h => dec_f fun hm => ?_)
  · simp only [netclass_among.l0]
    rw [if_pos (by omega), if_pos (by omega), if_pos (by omega), if_pos hc]
  · simp only [netclass_among.l0]
    rw [if_pos (by omega), if_pos (by omega), if_pos (by omega), if_neg hc, wrap_up hi (by omega)]
  · simp only [netclass_among.l0]
    rw [if_neg (by omega)]
  · obtain ⟨i, hi, e⟩ := mem_rd hm
    exact h i hi e
theorem within_ev (a b : List Int) (ha : a.length ≤ 1000000) (hb : b.length ≤ 1000000) : Ev (fun k => netclass_within.f k a b) (decide (∀ x ∈ a, x ∈ b)) := by
  unfold netclass_within.f
  refine Ev_ex (L := fun k i => netclass_within.l0 k b a (a.length : Int) (i : Int)) (n := a.length) (fun i => rd a (i : Int) ∉ b) (a := false) (e := true) (fun i hi hc => ?_) (fun i hi hc r hr => ?_) (fun _ => Ev.one fun k => ?_) (fun ⟨j, hj, hn⟩ => dec_f fun h => hn (h _ (rd_mem (by omega) (by omega)))) (fun h => dec_t fun x hx => ?_)
  · refine Ev.step (fun k => by simp only [netclass_within.l0]; rw [if_pos (by omega), if_pos (by omega), if_pos (by omega)]) ?_
    refine Ev.bind (among_ev b _ hb) ?_
    rw [dec_f hc]
    exact Ev.some _
  · refine Ev.step (fun k => by simp only [netclass_within.l0]; rw [if_pos (by omega), if_pos (by omega), if_pos (by omega), wrap_up hi (by omega)]) ?_
    refine Ev.bind (among_ev b _ hb) ?_
    rw [dec_t (Classical.not_not.1 hc)]
    exact hr
  · simp only [netclass_within.l0]
    rw [if_neg (by omega)]
  · obtain ⟨i, hi, e⟩ := mem_rd hx
    rw [← e]; exact Classical.not_not.1 (h i hi)
theorem meet_ev (a b : List Int) (ha : a.length ≤ 1000000) (hb : b.length ≤ 1000000) : Ev (fun k => netclass_meet.f k a b) (decide (∃ x ∈ a, x ∈ b)) := by
  unfold netclass_meet.f
  refine Ev_ex (L := fun k i => netclass_meet.l0 k b a (a.length : Int) (i : Int)) (n := a.length) (fun i => rd a (i : Int) ∈ b) (a := true) (e := false) (fun i hi hc => ?_) (fun i hi hc r hr => ?_) (fun _ => Ev.one fun k => ?_) (fun ⟨j, hj, hn⟩ => dec_t ⟨_, rd_mem (by omega) (by omega), hn⟩) (fun h => dec_f fun ⟨x, hx, hy⟩ => ?_)
  · refine Ev.step (fun k => by simp only [netclass_meet.l0]; rw [if_pos (by omega), if_pos (by omega), if_pos (by omega)]) ?_
    refine Ev.bind (among_ev b _ hb) ?_
    rw [dec_t hc]
    exact Ev.some _
  · refine Ev.step (fun k => by simp only [netclass_meet.l0]; rw [if_pos (by omega), if_pos (by omega), if_pos (by omega), wrap_up hi (by omega)]) ?_
    refine Ev.bind (among_ev b _ hb) ?_
    rw [dec_f hc]
    exact hr
  · simp only [netclass_meet.l0]
    rw [if_neg (by omega)]
  · obtain ⟨i, hi, e⟩ := mem_rd hx
    exact h i hi (by rw [e]; exact hy)
/-! ### consumers -/
def Cm (ts : List Tra) (p t : Nat) : Prop := weightS (ts.getD t zT).f1 (p : Int) > 0
def meetP (ts : List Tra) (p q : Nat) : Prop := ∃ t, t < ts.length ∧ Cm ts p t ∧ Cm ts q t
def withinP (ts : List Tra) (p q : Nat) : Prop := ∀ t, t < ts.length → Cm ts p t → Cm ts q t
theorem mem_cons {ts : List Tra} {p : Nat} {x : Int} : x ∈ consumersS true ts (p : Int) ↔ ∃ t : Nat, x = (t : Int) ∧ t < ts.length ∧ Cm ts p t := by
  unfold consumersS
  rw [if_pos rfl]
  constructor
  · intro h
    obtain ⟨t, ht, e⟩ := List.mem_map.1 h
    obtain ⟨h1, h2⟩ := List.mem_filter.1 ht
    exact ⟨t, e.symm, List.mem_range.1 h1, by unfold Cm; exact of_decide_eq_true h2⟩
  · rintro ⟨t, rfl, h1, h2⟩
    exact List.mem_map.2 ⟨t, List.mem_filter.2 ⟨List.mem_range.2 h1, decide_eq_true (p := weightS (ts.getD t zT).f1 (p : Int) > 0) h2⟩, rfl⟩
theorem cons_len (ts : List Tra) (p : Int) (ht : ts.length ≤ 1000000) : (consumersS true ts p).length ≤ 1000000 := by
  unfold consumersS; rw [if_pos rfl]; exact Nat.le_trans (filter_len _ _) ht
theorem cons_within {ts : List Tra} {p q : Nat} : (∀ x ∈ consumersS true ts (p : Int), x ∈ consumersS true ts (q : Int)) ↔ withinP ts p q := by
  constructor
  · intro h t ht hc
    obtain ⟨u, e, _, h2⟩ := mem_cons.1 (h _ (mem_cons.2 ⟨t, rfl, ht, hc⟩))
    obtain rfl : t = u := by omega
    exact h2
  · intro h x hx
    obtain ⟨t, rfl, h1, h2⟩ := mem_cons.1 hx
    exact mem_cons.2 ⟨t, rfl, h1, h t h1 h2⟩
theorem cons_meet {ts : List Tra} {p q : Nat} : (∃ x ∈ consumersS true ts (p : Int), x ∈ consumersS true ts (q : Int)) ↔ meetP ts p q := by
  constructor
  · rintro ⟨x, h1, h2⟩
    obtain ⟨t, rfl, a1, a2⟩ := mem_cons.1 h1
    obtain ⟨u, e, _, b2⟩ := mem_cons.1 h2
    obtain rfl : t = u := by omega
    exact ⟨t, a1, a2, b2⟩
  · rintro ⟨t, h1, h2, h3⟩
    exact ⟨_, mem_cons.2 ⟨t, rfl, h1, h2⟩, mem_cons.2 ⟨t, rfl, h1, h3⟩⟩
section
variable {nm : ByteArray} {ps : List Pla} {ts : List Tra}
def freeP (ps : List Pla) (ts : List Tra) : Prop := ∀ p, p < ps.length → ∀ q, q < ps.length → meetP ts p q → withinP ts p q ∧ withinP ts q p
open Classical in
noncomputable def freeS (b : Bool) (ps : List Pla) (ts : List Tra) : Bool := decide (b = true ∧ freeP ps ts)
/-! ### FreeChoice -/
open Classical in
theorem okFreeChoice_ev (p q : Nat) (ht : ts.length ≤ 1000000) : Ev (fun k => netclass_FreeChoice_1.f k (consumersS true ts (p : Int)) (consumersS true ts (q : Int))) (decide (withinP ts p q ∧ withinP ts q p)) := by
  unfold netclass_FreeChoice_1.f
  refine Ev.bind (within_ev _ _ (cons_len _ _ ht) (cons_len _ _ ht)) ?_
  by_cases h : withinP ts p q
  · refine Ev.congr (fun k => if_pos (dec_t (cons_within.2 h))) ?_
    refine Ev.bind (within_ev _ _ (cons_len _ _ ht) (cons_len _ _ ht)) ?_
    by_cases h2 : withinP ts q p
    · rw [dec_t (cons_within.2 h2), show decide (withinP ts p q ∧ withinP ts q p) = true from dec_t ⟨h, h2⟩]; exact Ev.some _
    · rw [dec_f (fun x => h2 (cons_within.1 x)), show decide (withinP ts p q ∧ withinP ts q p) = false from dec_f fun x => h2 x.2]; exact Ev.some _
  · refine Ev.congr (fun k => if_neg (by rw [dec_f (fun x => h (cons_within.1 x))]; exact Bool.false_ne_true)) ?_
    rw [show decide (withinP ts p q ∧ withinP ts q p) = false from dec_f fun x => h x.1]; exact Ev.some _
theorem free_ev (hp : ps.length ≤ 1000000) (ht : ts.length ≤ 1000000) (hT : Thin ts) : Ev (fun k => netclass_FreeChoice.f k nm ps ts) (freeS (basicS (validS nm ps ts) ps ts) ps ts) := by
  unfold netclass_FreeChoice.f netclass_pairs_FreeChoice_1.f
  refine Ev.bind ?_ (Ev.some _)
  refine Ev.bind (simple_ev hp ht hT) ?_
  cases hb : basicS (validS nm ps ts) ps ts with
  | false => rw [show freeS false ps ts = false from dec_f fun h => by cases h.1]; exact Ev.some _
  | true =>
    simp only [↓reduceIte]
    have hv := basic_v hb
    have inner : ∀ p, p < ps.length → ∀ r, ((∃ q, q < ps.length ∧ (meetP ts p q ∧ ¬ (withinP ts p q ∧ withinP ts q p))) → r = false) → ((∀ q, q < ps.length → ¬ (meetP ts p q ∧ ¬ (withinP ts p q ∧ withinP ts q p))) → ∃ e, Ev (fun k => netclass_pairs_FreeChoice_1.l0 k (ps.length : Int) ((p + 1 : Nat) : Int) nm ps ts) e ∧ r = e) → Ev (fun k => netclass_pairs_FreeChoice_1.l0 k (ps.length : Int) (p : Int) nm ps ts) r := by
      intro p hp' r h1 h2
      refine Ev.step (fun k => by simp only [netclass_pairs_FreeChoice_1.l0]; rw [if_pos (by omega), wrap_up hp' (by omega)]) ?_
      refine Ev.bind (consumers_ev nm (p : Int) ht hT) ?_
      rw [hv]
      by_cases hz : (consumersS true ts (p : Int)).length = 0
      · refine Ev.congr (fun k => if_pos (by omega)) ?_
        obtain ⟨e, he, hr⟩ := h2 fun q hq h => by
          obtain ⟨x, hx, _⟩ := cons_meet.2 h.1
          rw [List.eq_nil_of_length_eq_zero hz] at hx
          cases hx
        rw [hr]; exact he
      · refine Ev.congr (fun k => if_neg (by omega)) ?_
        by_cases hall : ∀ q, q < ps.length → ¬ (meetP ts p q ∧ ¬ (withinP ts p q ∧ withinP ts q p))
        · obtain ⟨e, he, hr⟩ := h2 hall
          rw [hr]
          refine Ev_up (L := fun k q => netclass_pairs_FreeChoice_1.l1 k (consumersS true ts (p : Int)) (ps.length : Int) (p : Int) (ps.length : Int) (q : Int) nm ps ts) (n := ps.length) (fun q hq hr => ?_) (Ev.step (fun k => by simp only [netclass_pairs_FreeChoice_1.l1]; rw [if_neg (by omega), wrap_up hp' (by omega)]) he)
          refine Ev.step (fun k => by simp only [netclass_pairs_FreeChoice_1.l1]; rw [if_pos (by omega), wrap_up hq (by omega)]) ?_
          refine Ev.bind (consumers_ev nm (q : Int) ht hT) ?_
          rw [hv]
          refine Ev.bind (meet_ev _ _ (cons_len _ _ ht) (cons_len _ _ ht)) ?_
          by_cases hm : meetP ts p q
          · refine Ev.congr (fun k => if_pos (dec_t (cons_meet.2 hm))) ?_
            refine Ev.bind (okFreeChoice_ev p q ht) ?_
            exact Ev.congr (fun k => if_pos (dec_t (Classical.byContradiction fun h => hall q hq ⟨hm, h⟩))) hr
          · exact Ev.congr (fun k => if_neg (by rw [dec_f (fun x => hm (cons_meet.1 x))]; exact Bool.false_ne_true)) hr
        · have hex : ∃ q, q < ps.length ∧ (meetP ts p q ∧ ¬ (withinP ts p q ∧ withinP ts q p)) := Classical.byContradiction fun h => hall fun q hq hn => h ⟨q, hq, hn⟩
          rw [h1 hex]
          refine Ev_ex (L := fun k q => netclass_pairs_FreeChoice_1.l1 k (consumersS true ts (p : Int)) (ps.length : Int) (p : Int) (ps.length : Int) (q : Int) nm ps ts) (n := ps.length) (fun q => meetP ts p q ∧ ¬ (withinP ts p q ∧ withinP ts q p)) (a := false) (e := false) (fun q hq hc => ?_) (fun q hq hc r hr => ?_) (fun h => absurd hex fun ⟨q, hq, hn⟩ => h q hq hn) (fun _ => rfl) (fun _ => rfl)
          · refine Ev.step (fun k => by simp only [netclass_pairs_FreeChoice_1.l1]; rw [if_pos (by omega), wrap_up hq (by omega)]) ?_
            refine Ev.bind (consumers_ev nm (q : Int) ht hT) ?_
            rw [hv]
            refine Ev.bind (meet_ev _ _ (cons_len _ _ ht) (cons_len _ _ ht)) ?_
            refine Ev.congr (fun k => if_pos (dec_t (cons_meet.2 hc.1))) ?_
            refine Ev.bind (okFreeChoice_ev p q ht) ?_
            exact Ev.congr (fun k => if_neg (by rw [dec_f hc.2]; exact Bool.false_ne_true)) (Ev.some _)
          · refine Ev.step (fun k => by simp only [netclass_pairs_FreeChoice_1.l1]; rw [if_pos (by omega), wrap_up hq (by omega)]) ?_
            refine Ev.bind (consumers_ev nm (q : Int) ht hT) ?_
            rw [hv]
            refine Ev.bind (meet_ev _ _ (cons_len _ _ ht) (cons_len _ _ ht)) ?_
            by_cases hm : meetP ts p q
            · refine Ev.congr (fun k => if_pos (dec_t (cons_meet.2 hm))) ?_
              refine Ev.bind (okFreeChoice_ev p q ht) ?_
              exact Ev.congr (fun k => if_pos (dec_t (Classical.byContradiction fun h => hc ⟨hm, h⟩))) hr
            · exact Ev.congr (fun k => if_neg (by rw [dec_f (fun x => hm (cons_meet.1 x))]; exact Bool.false_ne_true)) hr
    refine Ev_ex (L := fun k p => netclass_pairs_FreeChoice_1.l0 k (ps.length : Int) (p : Int) nm ps ts) (n := ps.length) (fun p => ∃ q, q < ps.length ∧ (meetP ts p q ∧ ¬ (withinP ts p q ∧ withinP ts q p))) (a := false) (e := true) (fun p hp' hc => inner p hp' false (fun _ => rfl) (fun h => absurd hc fun ⟨q, hq, hn⟩ => h q hq hn)) (fun p hp' hc r hr => inner p hp' r (fun h => absurd h hc) (fun _ => ⟨r, hr, rfl⟩)) (fun _ => Ev.one fun k => by simp only [netclass_pairs_FreeChoice_1.l0]; rw [if_neg (by omega)]) (fun ⟨p, hp', q, hq, hm, hn⟩ => dec_f fun h => hn (h.2 p hp' q hq hm)) (fun h => dec_t ⟨rfl, fun p hp' q hq hm => Classical.byContradiction fun hn => h p hp' ⟨q, hq, hm, hn⟩⟩)
/-! ### Asymmetric -/
end
end Go.Proofs.Ytplljicodflagaa.Pl
/- Plain graph theory over lists of successors: walks by length, walks through the first m vertices, shortest distances. -/
namespace Go.Proofs.Ytplljicodflagaa.Pl
open Go.RowKit Go.Proofs.YtplljicodflagaaW.PrintWords Go.Proofs.YtplljicodflagaaW.PrintMore

/-- An edge between vertices. -/
def Ed (g : List (List Int)) (u v : Nat) : Prop := u < g.length ∧ v < g.length ∧ (v : Int) ∈ g.getD u []
/-- A walk of length k. -/
def Wk (g : List (List Int)) : Nat → Nat → Nat → Prop
  | 0, u, v => u = v ∧ u < g.length
  | k + 1, u, v => ∃ w, Ed g u w ∧ Wk g k w v
def R (g : List (List Int)) (u v : Nat) : Prop := ∃ k, Wk g k u v
def Rp (g : List (List Int)) (u v : Nat) : Prop := ∃ k, Wk g (k + 1) u v

section
variable {g : List (List Int)}
theorem Wk.lt : ∀ {k u v}, Wk g k u v → u < g.length ∧ v < g.length
  | 0, u, v, h => by obtain ⟨rfl, h⟩ := h; exact ⟨h, h⟩
  | k + 1, u, v, h => by obtain ⟨w, h1, h2⟩ := h; exact ⟨h1.1, (Wk.lt h2).2⟩
theorem Wk.add : ∀ {a b u v w}, Wk g a u v → Wk g b v w → Wk g (a + b) u w
  | 0, b, u, v, w, h, k => by obtain ⟨rfl, _⟩ := h; rw [Nat.zero_add]; exact k
  | a + 1, b, u, v, w, h, k => by
    obtain ⟨x, h1, h2⟩ := h
    rw [show a + 1 + b = (a + b) + 1 by omega]
    exact ⟨x, h1, Wk.add h2 k⟩
theorem Wk.one {u v : Nat} (h : Ed g u v) : Wk g 1 u v := ⟨v, h, rfl, h.2.1⟩
theorem Wk.split : ∀ {a b u w}, Wk g (a + b) u w → ∃ v, Wk g a u v ∧ Wk g b v w
  | 0, b, u, w, h => by rw [Nat.zero_add] at h; exact ⟨u, ⟨rfl, h.lt.1⟩, h⟩
  | a + 1, b, u, w, h => by
    rw [show a + 1 + b = (a + b) + 1 by omega] at h
    obtain ⟨x, h1, h2⟩ := h
    obtain ⟨v, h3, h4⟩ := Wk.split h2
    exact ⟨v, ⟨x, h1, h3⟩, h4⟩
theorem R.refl {u : Nat} (h : u < g.length) : R g u u := ⟨0, rfl, h⟩
theorem R.trans {u v w : Nat} (h : R g u v) (k : R g v w) : R g u w := by
  obtain ⟨a, h⟩ := h
  obtain ⟨b, k⟩ := k
  exact ⟨a + b, h.add k⟩
theorem R.edge {u v : Nat} (h : Ed g u v) : R g u v := ⟨1, Wk.one h⟩
theorem R.lt {u v : Nat} (h : R g u v) : u < g.length ∧ v < g.length := by obtain ⟨k, h⟩ := h; exact h.lt
theorem Rp.trans {u v w : Nat} (h : Rp g u v) (k : Rp g v w) : Rp g u w := by
  obtain ⟨a, h⟩ := h
  obtain ⟨b, k⟩ := k
  refine ⟨a + 1 + b, ?_⟩
  have := h.add k
  rwa [show a + 1 + (b + 1) = a + 1 + b + 1 by omega] at this

/-- A set that holds the start and with each vertex its successors holds all that can be reached. -/
theorem R.closed {p : Nat → Prop} (hs : ∀ u v, p u → Ed g u v → p v) {u v : Nat} (h : R g u v) (hu : p u) : p v := by
  obtain ⟨k, h⟩ := h
  induction k generalizing u with
  | zero => obtain ⟨rfl, _⟩ := h; exact hu
  | succ k ih => obtain ⟨w, h1, h2⟩ := h; exact ih (hs u w hu h1) h2

/-! ### through the first m vertices -/
inductive Via (g : List (List Int)) (m : Nat) : Nat → Nat → Prop
  | edge {u v : Nat} : Ed g u v → Via g m u v
  | join {u w v : Nat} : w < m → Via g m u w → Via g m w v → Via g m u v
theorem Via.up {m u v : Nat} (h : Via g m u v) : Via g (m + 1) u v := by
  induction h with
  | edge h => exact .edge h
  | join hw _ _ h1 h2 => exact .join (by omega) h1 h2
theorem Via.succ {m u v : Nat} : Via g (m + 1) u v ↔ Via g m u v ∨ (Via g m u m ∧ Via g m m v) := by
  constructor
  · intro h
    induction h with
    | edge h => exact .inl (.edge h)
    | @join u w v hw _ _ h1 h2 =>
      by_cases e : w = m
      · subst e
        have a1 : Via g w u w := h1.elim id (fun h => h.1)
        have a2 : Via g w w v := h2.elim id (fun h => h.2)
        exact .inr ⟨a1, a2⟩
      · have hw' : w < m := by omega
        rcases h1 with h1 | h1 <;> rcases h2 with h2 | h2
        · exact .inl (.join hw' h1 h2)
        · exact .inr ⟨.join hw' h1 h2.1, h2.2⟩
        · exact .inr ⟨h1.1, .join hw' h1.2 h2⟩
        · exact .inr ⟨h1.1, h2.2⟩
  · rintro (h | ⟨h1, h2⟩)
    · exact h.up
    · exact .join (Nat.lt_succ_self _) h1.up h2.up
theorem Via.zero {u v : Nat} : Via g 0 u v ↔ Ed g u v := by
  constructor
  · intro h
    cases h with
    | edge h => exact h
    | join hw _ _ => omega
  · exact .edge
theorem Via.all {u v : Nat} : Via g g.length u v ↔ Rp g u v := by
  constructor
  · intro h
    induction h with
    | edge h => exact ⟨0, Wk.one h⟩
    | join _ _ _ h1 h2 => exact h1.trans h2
  · rintro ⟨k, h⟩
    induction k generalizing u with
    | zero => obtain ⟨w, h1, rfl, _⟩ := h; exact .edge h1
    | succ k ih => obtain ⟨w, h1, h2⟩ := h; exact .join h1.2.1 (.edge h1) (ih h2)

/-! ### a list without repetitions below n has at most n elements -/
theorem nodup_le : ∀ (n : Nat) (l : List Nat), l.Nodup → (∀ x ∈ l, x < n) → l.length ≤ n
  | 0, l, _, h => by
    cases l with
    | nil => simp
    | cons a l => exact absurd (h a (by simp)) (by omega)
  | n + 1, l, hd, h => by
    by_cases hn : n ∈ l
    · have h1 := nodup_le n (l.erase n) (hd.erase n) (fun x hx => by
        have h2 := h x (List.mem_of_mem_erase hx)
        have h3 : x ≠ n := fun e => by subst e; exact (List.Nodup.not_mem_erase hd) hx
        omega)
      rw [List.length_erase_of_mem hn] at h1
      omega
    · have := nodup_le n l hd (fun x hx => by
        have h2 := h x hx
        have h3 : x ≠ n := fun e => hn (e ▸ hx)
        omega)
      omega

/-! ### shortest distances to a vertex -/
def Near (g : List (List Int)) (k u t : Nat) : Prop := Wk g k u t ∧ ∀ j, j < k → ¬ Wk g j u t
theorem Near.uniq {a b u t : Nat} (h : Near g a u t) (k : Near g b u t) : a = b := by
  rcases Nat.lt_trichotomy a b with h1 | h1 | h1
  · exact absurd h.1 (k.2 a h1)
  · exact h1
  · exact absurd k.1 (h.2 b h1)
theorem Near.next {k u t : Nat} (h : Near g (k + 1) u t) : ∃ w, Ed g u w ∧ Near g k w t := by
  obtain ⟨⟨w, h1, h2⟩, h3⟩ := h
  exact ⟨w, h1, h2, fun j hj hw => h3 (j + 1) (by omega) ⟨w, h1, hw⟩⟩
/-- On the way there is a vertex at each smaller distance. -/
theorem Near.down {t : Nat} : ∀ {k u : Nat}, Near g k u t → ∃ l : List Nat, l.Nodup ∧ l.length = k + 1 ∧ ∀ x ∈ l, ∃ j, j ≤ k ∧ Near g j x t
  | 0, u, h => ⟨[u], by simp, rfl, fun x hx => by simp at hx; subst hx; exact ⟨0, Nat.le_refl _, h⟩⟩
  | k + 1, u, h => by
    obtain ⟨w, _, hw⟩ := h.next
    obtain ⟨l, h1, h2, h3⟩ := Near.down hw
    refine ⟨u :: l, List.nodup_cons.2 ⟨fun hu => ?_, h1⟩, by simp [h2], fun x hx => ?_⟩
    · obtain ⟨j, hj, hn⟩ := h3 u hu
      have := hn.uniq h
      omega
    · rcases List.mem_cons.1 hx with rfl | hx
      · exact ⟨k + 1, Nat.le_refl _, h⟩
      · obtain ⟨j, hj, hn⟩ := h3 x hx
        exact ⟨j, by omega, hn⟩
theorem Near.lt {k u t : Nat} (h : Near g k u t) : k < g.length := by
  obtain ⟨l, h1, h2, h3⟩ := h.down
  have := nodup_le g.length l h1 (fun x hx => by obtain ⟨j, _, hn⟩ := h3 x hx; exact hn.1.lt.1)
  omega
end
end Go.Proofs.Ytplljicodflagaa.Pl
/- Reading a list of lists; appending to a list. -/
namespace Go.Proofs.Ytplljicodflagaa.Pl
open Go.RowKit Go.Proofs.Ytplljicodflagaa.P Go.Proofs.YtplljicodflagaaW.PrintWords Go.Proofs.YtplljicodflagaaW.PrintMore
end Go.Proofs.Ytplljicodflagaa.Pl
/- What small functions of the graphs' law answer. -/
namespace Go.Proofs.Ytplljicodflagaa.Pl
open Go.RowKit Go.Proofs.Ytplljicodflagaa.P Go.Proofs.YtplljicodflagaaW.PrintWords Go.Proofs.YtplljicodflagaaW.PrintMore


/-! ### few -/
/-! ### Same -/
theorem same_ev (a b : List Int) (ha : a.length ≤ 1000000000) : Ev (fun k => petrinetref04_Same.f k a b) (decide (a = b)) := by
  by_cases hl : (a.length : Int) = (b.length : Int)
  · refine Ev.congr (f := fun k => petrinetref04_Same.l0 k a b 0) (fun k => by unfold petrinetref04_Same.f; rw [if_pos hl]) ?_
    rcases Ev_scan (l := fun k i => petrinetref04_Same.l0 k a b i) (n := a.length) (bad := fun i => rd a (i : Int) ≠ rd b (i : Int)) (rb := false)
      (fun i hi hb r h => Ev.step (fun k => by
        simp only [petrinetref04_Same.l0]
        rw [if_pos (by omega), if_pos (by omega), if_pos (by omega), if_pos (by simpa using hb), wrap_up hi (by omega)]) h)
      (fun i hi hb => Ev.one (fun k => by
        simp only [petrinetref04_Same.l0]
        rw [if_pos (by omega), if_pos (by omega), if_pos (by omega), if_neg hb])) (Nat.zero_le _) with ⟨j, _, hj, hb, _, h⟩ | ⟨h1, h2⟩
    · rw [decide_eq_false (fun e => hb (by rw [e]))]
      exact h
    · rw [decide_eq_true (ext_rd (by omega) (fun i hi => by simpa using h1 i (Nat.zero_le _) hi))]
      exact h2 true (Ev.one (fun k => by simp only [petrinetref04_Same.l0]; rw [if_neg (by omega)]))
  · rw [decide_eq_false (fun e => hl (by rw [e]))]
    exact Ev.congr (f := fun _ => some false) (fun k => by unfold petrinetref04_Same.f; rw [if_neg hl]) (Ev.some _)

end Go.Proofs.Ytplljicodflagaa.Pl
/- Reversal: the lists of predecessors, ascending, without repetitions. -/
namespace Go.Proofs.Ytplljicodflagaa.Pl
open Go.RowKit Go.Proofs.Ytplljicodflagaa.P Go.Proofs.YtplljicodflagaaW.PrintWords Go.Proofs.YtplljicodflagaaW.PrintMore



end Go.Proofs.Ytplljicodflagaa.Pl
/- The reference's table of edges. -/
namespace Go.Proofs.Ytplljicodflagaa.Pl
open Go.RowKit Go.Proofs.Ytplljicodflagaa.P Go.Proofs.YtplljicodflagaaW.PrintWords Go.Proofs.YtplljicodflagaaW.PrintMore
/-! ### the table of edges -/
end Go.Proofs.Ytplljicodflagaa.Pl
/- Reversal, the reference's. -/
namespace Go.Proofs.Ytplljicodflagaa.Pl
open Go.RowKit Go.Proofs.Ytplljicodflagaa.P Go.Proofs.YtplljicodflagaaW.PrintWords Go.Proofs.YtplljicodflagaaW.PrintMore
/-! ### the reference's -/
end Go.Proofs.Ytplljicodflagaa.Pl
/- A graph with each edge in both directions, by both texts. -/
namespace Go.Proofs.Ytplljicodflagaa.Pl
set_option linter.unusedVariables false
open Go.RowKit Go.Proofs.Ytplljicodflagaa.P Go.Proofs.YtplljicodflagaaW.PrintWords Go.Proofs.YtplljicodflagaaW.PrintMore

section
variable {g : List (List Int)}
end
end Go.Proofs.Ytplljicodflagaa.Pl
/- Whether a net is valid, as netclass asks it. -/
namespace Go.Proofs.Ytplljicodflagaa.Pl
open Go.RowKit Go.Proofs.Ytplljicodflagaa.P Go.Proofs.YtplljicodflagaaW.PrintWords Go.Proofs.YtplljicodflagaaW.PrintMore
theorem nvalid_ev (nm : ByteArray) {ps : List Pla} {ts : List Tra} (hT : Thin ts) : Ev (fun k => netclass_valid.f k nm ps ts) (validS nm ps ts) := by
  unfold netclass_valid.f
  exact Ev.bind (check_ev nm hT) (Ev.some _)
end Go.Proofs.Ytplljicodflagaa.Pl
/- The flow graph of a net: what it is, and that the program's text answers it. -/
namespace Go.Proofs.Ytplljicodflagaa.Pl
set_option linter.unusedVariables false
open Go.RowKit Go.Proofs.Ytplljicodflagaa.P Go.Proofs.YtplljicodflagaaW.PrintWords Go.Proofs.YtplljicodflagaaW.PrintMore


/-- The row of node v when i transitions are told. -/
def fr (ts : List Tra) (K i v : Nat) : List Int :=
  if v < K then ((List.range i).filter (fun t : Nat => decide (weightS (ts.getD t zT).f1 (v : Int) > 0))).map (fun t : Nat => ((K + t : Nat) : Int)) else if v - K < i then (ts.getD (v - K) zT).f2.map (·.f0) else []
def f1 (ts : List Tra) (K i j v : Nat) : List Int := fr ts K i v ++ (if v < K ∧ (v : Int) ∈ ((ts.getD i zT).f1.take j).map (·.f0) then [((K + i : Nat) : Int)] else [])
def f2 (ts : List Tra) (K i j v : Nat) : List Int := if v = K + i then ((ts.getD i zT).f2.take j).map (·.f0) else f1 ts K i (ts.getD i zT).f1.length v
end Go.Proofs.Ytplljicodflagaa.Pl
/- The flow graph of a net: the reference's text. -/
namespace Go.Proofs.Ytplljicodflagaa.Pl
set_option linter.unusedVariables false
open Go.RowKit Go.Proofs.Ytplljicodflagaa.P Go.Proofs.YtplljicodflagaaW.PrintWords Go.Proofs.YtplljicodflagaaW.PrintMore

end Go.Proofs.Ytplljicodflagaa.Pl
/- Reachability: the search over a stack. -/
namespace Go.Proofs.Ytplljicodflagaa.Pl
open Go.RowKit Go.Proofs.Ytplljicodflagaa.P Go.Proofs.YtplljicodflagaaW.PrintWords Go.Proofs.YtplljicodflagaaW.PrintMore
section
variable {g : List (List Int)}
/-- Reached from one of the first i numbers of the list. -/
def From (g : List (List Int)) (xs : List Int) (i v : Nat) : Prop := ∃ j s : Nat, j < i ∧ rd xs (j : Int) = (s : Int) ∧ R g s v
def IsReach (g : List (List Int)) (xs : List Int) (out : List Bool) : Prop := out.length = g.length ∧ ∀ v, v < g.length → (out.getD v false = true ↔ From g xs xs.length v)
theorem IsReach.uniq {xs : List Int} {a b : List Bool} (h : IsReach g xs a) (k : IsReach g xs b) : a = b := by
  refine ext_rdOf false (h.1.trans k.1.symm) (fun i hi => ?_)
  rw [rdOf_nat, rdOf_nat]
  have hi' : i < g.length := by rw [← h.1]; exact hi
  exact Bool.eq_iff_iff.2 ((h.2 i hi').trans (k.2 i hi').symm)
/-! ### the search over a stack -/
def tr (b : Bool) : Bool := !b

end
end Go.Proofs.Ytplljicodflagaa.Pl
/- Strongly connected components: the depth-first search with a stack, and its result: of each vertex the least one in its component. -/
namespace Go.Proofs.Ytplljicodflagaa.Pl
open Go.RowKit Go.Proofs.Ytplljicodflagaa.P Go.Proofs.YtplljicodflagaaW.PrintWords Go.Proofs.YtplljicodflagaaW.PrintMore

def up (l : List Nat) : List Int := l.map (fun x : Nat => (x : Int))
theorem up_app (a b : List Nat) : up (a ++ b) = up a ++ up b := by unfold up; exact List.map_append
theorem up_len (a : List Nat) : (up a).length = a.length := by unfold up; simp
theorem up_rd (a : List Nat) (i : Nat) (hi : i < a.length) : rd (up a) (i : Int) = ((a[i] : Nat) : Int) := by
  rw [rd_nat, List.getD_eq_getElem?_getD, List.getElem?_eq_getElem (by rw [up_len]; exact hi)]
  unfold up
  simp
/-- The least vertex of u's component. -/
def IsL (g : List (List Int)) (u : Nat) (x : Int) : Prop := ∃ m : Nat, x = (m : Int) ∧ R g u m ∧ R g m u ∧ ∀ w, R g u w → R g w u → m ≤ w
theorem IsL.uniq {g : List (List Int)} {u : Nat} {x y : Int} (h : IsL g u x) (k : IsL g u y) : x = y := by
  obtain ⟨a, rfl, h1, h2, h3⟩ := h
  obtain ⟨b, rfl, k1, k2, k3⟩ := k
  have := h3 b k1 k2
  have := k3 a h1 h2
  omega

section
variable {g : List (List Int)} {s s' : TS} {st gray : List Nat} {u v w x y : Nat}
def ix (s : TS) (v : Nat) : Int := rd s.index (v : Int)
def lw (s : TS) (v : Nat) : Int := rd s.low (v : Int)
def ou (s : TS) (v : Nat) : Int := rd s.out (v : Int)
def Bl (s : TS) (v : Nat) : Prop := ix s v ≠ 0 ∧ ou s v ≠ -1
def z0 (x : Int) : Bool := decide (x = 0)

structure TI (g : List (List Int)) (s : TS) (st gray : List Nat) : Prop where
  li : s.index.length = g.length
  ll : s.low.length = g.length
  lo : s.out.length = g.length
  stk : s.stack = up st
  stn : ∀ v, v ∈ st → v < g.length
  srt : st.Pairwise (fun a b => ix s a < ix s b)
  on : ∀ v, v < g.length → (v ∈ st ↔ ix s v ≠ 0 ∧ ou s v = -1)
  nx : s.next + (s.index.countP z0 : Int) = (g.length : Int)
  n0 : 0 ≤ s.next
  pos : ∀ v, v < g.length → 0 ≤ ix s v ∧ ix s v ≤ s.next
  gr : ∀ x, x ∈ gray → x ∈ st
  nw : ∀ u w, Ed g u w → ix s u ≠ 0 → u ∉ gray → ix s w ≠ 0
  bb : ∀ u w, Ed g u w → Bl s u → Bl s w
  lst : ∀ u, u < g.length → Bl s u → IsL g u (ou s u)
  down : ∀ x, x ∈ gray → ∀ y, y ∈ st → ix s x ≤ ix s y → R g x y
  back : ∀ y, y ∈ st → ∃ x, x ∈ gray ∧ ix s x ≤ ix s y ∧ R g y x

structure Fr (g : List (List Int)) (s s' : TS) : Prop where
  nx : s.next ≤ s'.next
  ix : ∀ w, w < g.length → ix s w ≠ 0 → ix s' w = ix s w
  lw : ∀ w, w < g.length → Pl.ix s w ≠ 0 → lw s' w = lw s w
  ou : ∀ w, w < g.length → Pl.ix s w ≠ 0 → ou s' w = ou s w
theorem Fr.trans {s1 : TS} (h : Fr g s s1) (k : Fr g s1 s') : Fr g s s' := ⟨Int.le_trans h.nx k.nx, fun w hw h0 => by rw [k.ix w hw (by rw [h.ix w hw h0]; exact h0), h.ix w hw h0], fun w hw h0 => by rw [k.lw w hw (by rw [h.ix w hw h0]; exact h0), h.lw w hw h0], fun w hw h0 => by rw [k.ou w hw (by rw [h.ix w hw h0]; exact h0), h.ou w hw h0]⟩

/-- What a search leaves behind. -/
structure Post (g : List (List Int)) (s : TS) (st gray : List Nat) (v : Nat) (s' : TS) (ext : List Nat) : Prop where
  inv : TI g s' (st ++ ext) gray
  fr : Fr g s s'
  seen : ix s' v ≠ 0
  how : (ext = [] ∧ Bl s' v ∧ s.next < lw s' v) ∨ (v ∈ ext ∧ 1 ≤ lw s' v ∧ (∃ y, y ∈ st ++ ext ∧ ix s' y = lw s' v ∧ R g v y) ∧ ∀ b, b ∈ ext → ∀ y, y ∈ st → Ed g b y → lw s' v ≤ ix s y)

/-- In the loop of v's search, at place i of its list. -/
structure LI (g : List (List Int)) (s0 : TS) (st gray : List Nat) (v : Nat) (i : Nat) (s : TS) (ext : List Nat) : Prop where
  inv : TI g s (st ++ v :: ext) (v :: gray)
  fr : Fr g s0 s
  iv : ix s v = s0.next + 1
  lv : 1 ≤ lw s v
  lv2 : lw s v ≤ ix s v
  wit : ∃ y, y ∈ st ++ v :: ext ∧ ix s y = lw s v ∧ R g v y
  out : ∀ b, b ∈ ext → ∀ y, y ∈ st → Ed g b y → lw s v ≤ ix s y
  did : ∀ j : Nat, j < i → ∀ y : Nat, rd (g.getD v []) (j : Int) = (y : Int) → y < g.length → ix s y ≠ 0 ∧ (y ∈ st → lw s v ≤ ix s y)


/-! ### the end of a search -/
theorem down_ok (l : List Int) (v : Int) (a : Nat) (ha : rd l (a : Int) = v) : ∀ d : Nat, (∀ j : Nat, a < j → j ≤ a + d → rd l (j : Int) ≠ v) → downT l v (a + d) = some a
  | 0, _ => by
    cases a with
    | zero => simp only [downT]; rw [if_pos (by simpa using ha)]
    | succ a => simp only [downT]; rw [if_pos ha]
  | d + 1, h => by
    rw [show a + (d + 1) = (a + d) + 1 by omega]
    unfold downT
    rw [if_neg (h (a + d + 1) (by omega) (by omega)), down_ok l v a ha d (fun j h1 h2 => h j h1 (by omega))]
theorem assign_ok (f : Int) : ∀ (C : List Nat) (o : List Int) (n : Nat), o.length = n → (∀ c, c ∈ C → c < n) → ∃ o', assignT o (up C) f = some o' ∧ o'.length = n ∧ ∀ w : Nat, rd o' (w : Int) = if w ∈ C then f else rd o (w : Int)
  | [], o, n, hl, _ => ⟨o, rfl, hl, fun w => by simp⟩
  | c :: C, o, n, hl, h => by
    have hc := h c (List.mem_cons_self ..)
    obtain ⟨o', h1, h2, h3⟩ := assign_ok f C (o.set c f) n (by rw [List.length_set]; exact hl) (fun c hc => h c (List.mem_cons_of_mem _ hc))
    refine ⟨o', ?_, h2, fun w => ?_⟩
    · show (if 0 ≤ (c : Int) then (if (c : Int) < (o.length : Int) then assignT (o.set (c : Int).toNat f) (up C) f else none) else none) = some o'
      rw [if_pos (by omega), if_pos (by omega), Int.toNat_natCast, h1]
    · rw [h3 w]
      by_cases e : w ∈ C
      · rw [if_pos e, if_pos (List.mem_cons_of_mem _ e)]
      · rw [if_neg e]
        have := rd_set o (c : Int) (w : Int) f (by omega) (by omega) (by omega)
        rw [Int.toNat_natCast] at this
        rw [this]
        by_cases e2 : w = c
        · rw [if_pos (by omega), if_pos (by rw [e2]; exact List.mem_cons_self ..)]
        · rw [if_neg (by omega), if_neg (fun hm => (List.mem_cons.1 hm).elim e2 e)]
theorem least_ok : ∀ (C : List Nat) (a : Nat), ∃ m : Nat, (up C).foldl mn (a : Int) = (m : Int) ∧ (m = a ∨ m ∈ C) ∧ m ≤ a ∧ ∀ c, c ∈ C → m ≤ c
  | [], a => ⟨a, rfl, .inl rfl, Nat.le_refl _, fun c h => by cases h⟩
  | c :: C, a => by
    have hf : (up (c :: C)).foldl mn (a : Int) = (up C).foldl mn (((if c < a then c else a : Nat) : Nat) : Int) := by
      show (up C).foldl mn (mn (a : Int) (c : Int)) = _
      congr 1
      unfold mn
      by_cases e : c < a
      · rw [if_pos e, if_pos (by omega)]
      · rw [if_neg e, if_neg (by omega)]
    obtain ⟨m, h1, h2, h3, h4⟩ := least_ok C (if c < a then c else a)
    refine ⟨m, hf.trans h1, ?_, ?_, fun x hx => ?_⟩
    · rcases h2 with h2 | h2
      · by_cases e : c < a
        · rw [if_pos e] at h2; exact .inr (by rw [h2]; exact List.mem_cons_self ..)
        · rw [if_neg e] at h2; exact .inl h2
      · exact .inr (List.mem_cons_of_mem _ h2)
    · split at h3 <;> omega
    · rcases List.mem_cons.1 hx with rfl | hx
      · split at h3 <;> omega
      · exact h4 x hx

theorem LI.fin {s0 : TS} {ext : List Nat} (h : LI g s0 st gray v (g.getD v []).length s ext) (hv : v < g.length) (h0 : TI g s0 st gray) (hw : ix s0 v = 0) :
    ∃ s' e', (if rd s.low (v : Int) = rd s.index (v : Int) then finishT (v : Int) s else some s) = some s' ∧ Post g s0 st gray v s' e' := by
  obtain ⟨I, fr, iv, lv, lv2, wit, hout, did⟩ := h
  have hvst : v ∉ st := fun hm => ((h0.on v hv).1 hm).1 hw
  have succ : ∀ y, Ed g v y → ix s y ≠ 0 ∧ (y ∈ st → lw s v ≤ ix s y) := fun y hy => by
    obtain ⟨j, hj, e⟩ := mem_rd hy.2.2
    exact did j hj y e hy.2.1
  obtain ⟨p1, p2, p3⟩ := List.pairwise_append.1 I.srt
  obtain ⟨p4, p5⟩ := List.pairwise_cons.1 p2
  have before : ∀ y, y ∈ st → ix s y < ix s v := fun y hy => p3 y hy v (List.mem_cons_self ..)
  have after : ∀ b, b ∈ v :: ext → ix s v ≤ ix s b := fun b hb => by
    rcases List.mem_cons.1 hb with rfl | hb
    · exact Int.le_refl _
    · exact Int.le_of_lt (p4 b hb)
  have grst : ∀ x, x ∈ gray → x ∈ st := fun x hx => h0.gr x hx
  have ext0 : ∀ b, b ∈ ext → b ∉ v :: gray := fun b hb hm => by
    rcases List.mem_cons.1 hm with rfl | hm
    · exact absurd (p4 b hb) (Int.lt_irrefl _)
    · have := before b (grst b hm)
      have := p4 b hb
      omega
  by_cases c : rd s.low (v : Int) = rd s.index (v : Int)
  · have c' : lw s v = ix s v := c
    rw [if_pos c]
    -- the component is closed but for what is done
    have closed : ∀ b w, b ∈ v :: ext → Ed g b w → Bl s w ∨ w ∈ v :: ext := fun b w hb he => by
      have hwn : ix s w ≠ 0 ∧ (w ∈ st → lw s v ≤ ix s w) := by
        rcases List.mem_cons.1 hb with rfl | hb
        · exact succ w he
        · have hbs : b ∈ st ++ v :: ext := List.mem_append.2 (.inr (List.mem_cons_of_mem _ hb))
          exact ⟨I.nw b w he ((I.on b he.1).1 hbs).1 (ext0 b hb), fun hws => hout b hb w hws he⟩
      by_cases e : ou s w = -1
      · have hm := (I.on w he.2.1).2 ⟨hwn.1, e⟩
        rcases List.mem_append.1 hm with hm | hm
        · have := hwn.2 hm
          have := before w hm
          omega
        · exact .inr hm
      · exact .inl ⟨hwn.1, e⟩
    have reach : ∀ b w, b ∈ v :: ext → R g b w → Bl s w ∨ w ∈ v :: ext := fun b w hb hr => R.closed (p := fun w => Bl s w ∨ w ∈ v :: ext) (fun a c ha he => ha.elim (fun ha => .inl (I.bb a c he ha)) (fun ha => closed a c ha he)) hr (.inr hb)
    have inst : ∀ b, b ∈ v :: ext → b ∈ st ++ v :: ext := fun b hb => List.mem_append.2 (.inr hb)
    have toC : ∀ b, b ∈ v :: ext → R g v b := fun b hb => I.down v (List.mem_cons_self ..) b (inst b hb) (after b hb)
    have notB : ∀ b, b ∈ st ++ v :: ext → ¬ Bl s b := fun b hb h => h.2 ((I.on b (I.stn b hb)).1 hb).2
    have fromC : ∀ b, b ∈ v :: ext → R g b v := fun b hb => by
      obtain ⟨x, hx, _, hr⟩ := I.back b (inst b hb)
      rcases List.mem_cons.1 hx with rfl | hx
      · exact hr
      · rcases reach b x hb hr with h | h
        · exact absurd h (notB x (List.mem_append.2 (.inl (grst x hx))))
        · have := before x (grst x hx)
          have := after x h
          omega
    have scc : ∀ b w, b ∈ v :: ext → R g b w → R g w b → w ∈ v :: ext := fun b w hb h1 h2 => by
      rcases reach b w hb h1 with h | h
      · exact absurd (R.closed (p := fun w => Bl s w) (fun a c ha he => I.bb a c he ha) h2 h) (notB b (inst b hb))
      · exact h
    obtain ⟨m, m1, m2, m3, m4⟩ := least_ok (v :: ext) v
    have mC : m ∈ v :: ext := m2.elim (fun h => by rw [h]; exact List.mem_cons_self ..) id
    obtain ⟨o, o1, o2, o3⟩ := assign_ok (m : Int) (v :: ext) s.out g.length I.lo (fun c hc => I.stn c (inst c hc))
    have hlen : s.stack.length = st.length + (ext.length + 1) := by rw [I.stk, up_len]; simp
    have hdrop : s.stack.drop st.length = up (v :: ext) := by rw [I.stk, up_app, ← up_len st, List.drop_left]
    have htake : s.stack.take st.length = up st := by rw [I.stk, up_app, ← up_len st, List.take_left]
    have hdown : downT s.stack (v : Int) (s.stack.length - 1) = some st.length := by
      rw [show s.stack.length - 1 = st.length + ext.length by omega, I.stk]
      refine down_ok _ _ _ ?_ _ (fun j j1 j2 => ?_)
      · rw [up_rd _ _ (by simp)]
        simp
      · have hj : j < (st ++ v :: ext).length := by simp; omega
        rw [up_rd _ _ hj]
        have : (st ++ v :: ext)[j] ∈ ext := by
          rw [List.getElem_append_right (by omega), List.getElem_cons]
          rw [dif_neg (by omega)]
          exact List.getElem_mem _
        intro e
        have e2 : (st ++ v :: ext)[j] = v := by omega
        rw [e2] at this
        exact ext0 v this (List.mem_cons_self ..)
    refine ⟨{ s with out := o, stack := up st }, [], ?_, ?_⟩
    · unfold finishT
      rw [if_pos (by omega), hdown]
      simp only [Option.bind_some]
      rw [hdrop, htake, m1, o1]
      rfl
    · have eix : ∀ w, ix { s with out := o, stack := up st } w = ix s w := fun w => rfl
      have elw : ∀ w, lw { s with out := o, stack := up st } w = lw s w := fun w => rfl
      have eou : ∀ w, ou { s with out := o, stack := up st } w = if w ∈ v :: ext then (m : Int) else ou s w := fun w => o3 w
      have stC : ∀ w, w ∈ st → w ∉ v :: ext := fun w hw hm => by
        have := before w hw
        have := after w hm
        omega
      have bl : ∀ w, w < g.length → (Bl { s with out := o, stack := up st } w ↔ Bl s w ∨ w ∈ v :: ext) := fun w hw => by
        unfold Bl
        rw [eix, eou]
        by_cases e : w ∈ v :: ext
        · rw [if_pos e]
          exact ⟨fun _ => .inr e, fun _ => ⟨((I.on w hw).1 (inst w e)).1, by omega⟩⟩
        · rw [if_neg e]
          exact ⟨.inl, fun h => h.elim id (fun h => absurd h e)⟩
      refine ⟨⟨I.li, I.ll, o2, by rw [List.append_nil], fun w hw => by rw [List.append_nil] at hw; exact h0.stn w hw, by rw [List.append_nil]; exact p1, fun w hw => ?_, I.nx, I.n0, I.pos, fun x hx => by rw [List.append_nil]; exact grst x hx, fun a b he ha hag => ?_, fun a b he ha => ?_, fun a ha hb => ?_, fun x hx y hy hle => ?_, fun y hy => ?_⟩, ⟨fr.nx, fr.ix, fr.lw, fun w hw h1 => ?_⟩, ?_, .inl ⟨rfl, ?_, ?_⟩⟩
      · rw [List.append_nil, eix, eou]
        constructor
        · intro hm
          rw [if_neg (stC w hm)]
          exact (I.on w hw).1 (List.mem_append.2 (.inl hm))
        · intro ⟨h1, h2⟩
          by_cases e : w ∈ v :: ext
          · rw [if_pos e] at h2; omega
          · rw [if_neg e] at h2
            exact (List.mem_append.1 ((I.on w hw).2 ⟨h1, h2⟩)).elim id (fun h => absurd h e)
      · rw [eix] at ha ⊢
        by_cases e : a = v
        · subst e; exact (succ b he).1
        · exact I.nw a b he ha (fun hm => (List.mem_cons.1 hm).elim e hag)
      · rw [bl a he.1] at ha
        rw [bl b he.2.1]
        exact ha.elim (fun ha => .inl (I.bb a b he ha)) (fun ha => closed a b ha he)
      · rw [eou]
        by_cases e : a ∈ v :: ext
        · rw [if_pos e]
          exact ⟨m, rfl, (fromC a e).trans (toC m mC), (fromC m mC).trans (toC a e), fun w h1 h2 => (List.mem_cons.1 (scc a w e h1 h2)).elim (fun h => by rw [h]; exact m3) (fun h => m4 w (List.mem_cons_of_mem _ h))⟩
        · rw [if_neg e]
          exact I.lst a ha (((bl a ha).1 hb).elim id (fun h => absurd h e))
      · rw [List.append_nil] at hy
        exact I.down x (List.mem_cons_of_mem _ hx) y (List.mem_append.2 (.inl hy)) hle
      · rw [List.append_nil] at hy
        obtain ⟨x, hx, h1, h2⟩ := I.back y (List.mem_append.2 (.inl hy))
        rcases List.mem_cons.1 hx with rfl | hx
        · have := before y hy
          omega
        · exact ⟨x, hx, h1, h2⟩
      · rw [eou, if_neg (fun hm => ?_)]
        · exact fr.ou w hw h1
        · by_cases hws : w ∈ st
          · exact stC w hws hm
          · have h3 := fr.ou w hw h1
            have h4 := ((I.on w hw).1 (inst w hm)).2
            rw [h4] at h3
            exact hws ((h0.on w hw).2 ⟨h1, h3.symm⟩)
      · rw [eix, iv]; have := h0.n0; omega
      · exact (bl v hv).2 (.inr (List.mem_cons_self ..))
      · rw [elw, c', iv]; omega
  · have c' : lw s v < ix s v := by
      have : lw s v ≠ ix s v := c
      omega
    rw [if_neg c]
    refine ⟨s, v :: ext, rfl, ⟨I.li, I.ll, I.lo, I.stk, I.stn, I.srt, I.on, I.nx, I.n0, I.pos, fun x hx => I.gr x (List.mem_cons_of_mem _ hx), fun a b he ha hag => ?_, I.bb, I.lst, fun x hx => I.down x (List.mem_cons_of_mem _ hx), fun y hy => ?_⟩, fr, by rw [iv]; have := h0.n0; omega, .inr ⟨List.mem_cons_self .., lv, wit, fun b hb y hy he => ?_⟩⟩
    · by_cases e : a = v
      · subst e; exact (succ b he).1
      · exact I.nw a b he ha (fun hm => (List.mem_cons.1 hm).elim e hag)
    · obtain ⟨x, hx, h1, h2⟩ := I.back y hy
      rcases List.mem_cons.1 hx with rfl | hx
      · obtain ⟨z, hz, z1, z2⟩ := wit
        obtain ⟨x', hx', h3, h4⟩ := I.back z hz
        rcases List.mem_cons.1 hx' with rfl | hx'
        · omega
        · exact ⟨x', hx', by omega, (h2.trans z2).trans h4⟩
      · exact ⟨x, hx, h1, h2⟩
    · rw [← fr.ix y (h0.stn y hy) ((h0.on y (h0.stn y hy)).1 hy).1]
      rcases List.mem_cons.1 hb with rfl | hb
      · exact (succ y he).2 hy
      · exact hout b hb y hy he

/-! ### the loop of a search -/
theorem TI.low (h : TI g s st gray) (l : List Int) (hl : l.length = g.length) : TI g { s with low := l } st gray := ⟨h.li, hl, h.lo, h.stk, h.stn, h.srt, h.on, h.nx, h.n0, h.pos, h.gr, h.nw, h.bb, h.lst, h.down, h.back⟩
theorem LI.next {s0 : TS} {ext : List Nat} {i : Nat} (h : LI g s0 st gray v i s ext) (d : ∀ y : Nat, rd (g.getD v []) (i : Int) = (y : Int) → y < g.length → ix s y ≠ 0 ∧ (y ∈ st → lw s v ≤ ix s y)) : LI g s0 st gray v (i + 1) s ext :=
  ⟨h.inv, h.fr, h.iv, h.lv, h.lv2, h.wit, h.out, fun j hj y hy hyn => by
    by_cases e : j = i
    · subst e; exact d y hy hyn
    · exact h.did j (by omega) y hy hyn⟩



/-- Of each vertex the least one in its component. -/
def IsComp (g : List (List Int)) (c : List Int) : Prop := c.length = g.length ∧ ∀ v, v < g.length → IsL g v (rd c (v : Int))
theorem IsComp.uniq {a b : List Int} (h : IsComp g a) (k : IsComp g b) : a = b := ext_rd (h.1.trans k.1.symm) (fun i hi => (h.2 i (by rw [← h.1]; exact hi)).uniq (k.2 i (by rw [← h.1]; exact hi)))
end
end Go.Proofs.Ytplljicodflagaa.Pl
/- Components, as the program finds them; what a bottom component is. -/
namespace Go.Proofs.Ytplljicodflagaa.Pl
open Go.RowKit Go.Proofs.Ytplljicodflagaa.P Go.Proofs.YtplljicodflagaaW.PrintWords Go.Proofs.YtplljicodflagaaW.PrintMore
section
variable {g : List (List Int)}
theorem IsL.same {u w : Nat} {x : Int} (h : IsL g u x) (h1 : R g u w) (h2 : R g w u) : IsL g w x := by
  obtain ⟨m, rfl, a1, a2, a3⟩ := h
  exact ⟨m, rfl, h2.trans a1, a2.trans h1, fun y y1 y2 => a3 y (h1.trans y1) (y2.trans h2)⟩
theorem IsComp.at {c : List Int} (h : IsComp g c) {v : Nat} (hv : v < g.length) : ∃ m : Nat, rd c (v : Int) = (m : Int) ∧ m < g.length ∧ R g v m ∧ R g m v := by
  obtain ⟨m, h1, h2, h3, _⟩ := h.2 v hv
  exact ⟨m, h1, h2.lt.2, h2, h3⟩
theorem IsComp.same {c : List Int} (h : IsComp g c) {u v : Nat} (hu : u < g.length) (hv : v < g.length) : rd c (u : Int) = rd c (v : Int) ↔ R g u v ∧ R g v u := by
  constructor
  · intro e
    obtain ⟨m, h1, _, h3, h4⟩ := h.at hu
    obtain ⟨m', k1, _, k3, k4⟩ := h.at hv
    have : m' = m := by omega
    subst this
    exact ⟨h3.trans k4, k3.trans h4⟩
  · rintro ⟨h1, h2⟩
    exact ((h.2 u hu).same h1 h2).uniq (h.2 v hv)

end
end Go.Proofs.Ytplljicodflagaa.Pl
/- The reference's table of walks. -/
namespace Go.Proofs.Ytplljicodflagaa.Pl
open Go.RowKit Go.Proofs.Ytplljicodflagaa.P Go.Proofs.YtplljicodflagaaW.PrintWords Go.Proofs.YtplljicodflagaaW.PrintMore
/-! ### a table, read and written -/

section
variable {g : List (List Int)}
theorem Via.at {K u : Nat} (h : Via g (K + 1) u K) : Via g K u K := (Via.succ.1 h).elim id (fun h => h.1)
theorem Via.from {K v : Nat} (h : Via g (K + 1) K v) : Via g K K v := (Via.succ.1 h).elim id (fun h => h.2)





end
end Go.Proofs.Ytplljicodflagaa.Pl
/- Components and bottom components, the reference's. -/
namespace Go.Proofs.Ytplljicodflagaa.Pl
open Go.RowKit Go.Proofs.Ytplljicodflagaa.P Go.Proofs.YtplljicodflagaaW.PrintWords Go.Proofs.YtplljicodflagaaW.PrintMore
section
variable {g : List (List Int)}
end
end Go.Proofs.Ytplljicodflagaa.Pl
/- Whether the flow graph is connected, strongly connected: by both texts. -/
namespace Go.Proofs.Ytplljicodflagaa.Pl
set_option linter.unusedVariables false
open Go.RowKit Go.Proofs.Ytplljicodflagaa.P Go.Proofs.YtplljicodflagaaW.PrintWords Go.Proofs.YtplljicodflagaaW.PrintMore

end Go.Proofs.Ytplljicodflagaa.Pl
/- The clusters of a net: the least node of each, by both texts. -/
namespace Go.Proofs.Ytplljicodflagaa.Pl
set_option linter.unusedVariables false
open Go.RowKit Go.Proofs.Ytplljicodflagaa.P Go.Proofs.YtplljicodflagaaW.PrintWords Go.Proofs.YtplljicodflagaaW.PrintMore

/-! ### the classes that pairs generate -/
inductive Cl (D : Nat → Nat → Prop) : Nat → Nat → Prop
  | refl {u : Nat} : Cl D u u
  | step {u v w : Nat} : Cl D u v → (D v w ∨ D w v) → Cl D u w
namespace Cl
variable {D : Nat → Nat → Prop}
theorem trans {u v w : Nat} (h : Cl D u v) (k : Cl D v w) : Cl D u w := by
  induction k with
  | refl => exact h
  | step _ e ih => exact ih.step e
theorem one {u v : Nat} (h : D u v ∨ D v u) : Cl D u v := Cl.refl.step h
theorem symm {u v : Nat} (h : Cl D u v) : Cl D v u := by
  induction h with
  | refl => exact .refl
  | step _ e ih => exact (one e.symm).trans ih
theorem mono {E : Nat → Nat → Prop} (hs : ∀ u v, D u v → E u v) {u v : Nat} (h : Cl D u v) : Cl E u v := by
  induction h with
  | refl => exact .refl
  | step _ e ih => exact ih.step (e.imp (hs _ _) (hs _ _))
/-- One pair more. -/
theorem add {a b : Nat} {u v : Nat} : Cl (fun x y => D x y ∨ (x = a ∧ y = b)) u v ↔ Cl D u v ∨ (Cl D u a ∧ Cl D b v) ∨ (Cl D u b ∧ Cl D a v) := by
  constructor
  · intro h
    induction h with
    | refl => exact .inl .refl
    | @step v w _ e ih =>
      have e' : (D v w ∨ D w v) ∨ (v = a ∧ w = b) ∨ (w = a ∧ v = b) := by
        rcases e with (e | e) | (e | e)
        · exact .inl (.inl e)
        · exact .inr (.inl e)
        · exact .inl (.inr e)
        · exact .inr (.inr e)
      rcases e' with e | ⟨rfl, rfl⟩ | ⟨rfl, rfl⟩
      · rcases ih with ih | ⟨h1, h2⟩ | ⟨h1, h2⟩
        · exact .inl (ih.step e)
        · exact .inr (.inl ⟨h1, h2.step e⟩)
        · exact .inr (.inr ⟨h1, h2.step e⟩)
      · rcases ih with ih | ⟨h1, h2⟩ | ⟨h1, h2⟩
        · exact .inr (.inl ⟨ih, .refl⟩)
        · exact .inr (.inl ⟨h1, .refl⟩)
        · exact .inl h1
      · rcases ih with ih | ⟨h1, h2⟩ | ⟨h1, h2⟩
        · exact .inr (.inr ⟨ih, .refl⟩)
        · exact .inl h1
        · exact .inr (.inr ⟨h1, .refl⟩)
  · have up : ∀ {x y}, Cl D x y → Cl (fun x y => D x y ∨ (x = a ∧ y = b)) x y := fun h => h.mono fun _ _ => Or.inl
    have ab : Cl (fun x y => D x y ∨ (x = a ∧ y = b)) a b := one (.inl (.inr ⟨rfl, rfl⟩))
    rintro (h | ⟨h1, h2⟩ | ⟨h1, h2⟩)
    · exact up h
    · exact ((up h1).trans ab).trans (up h2)
    · exact ((up h1).trans ab.symm).trans (up h2)
end Cl
/-- Of each node below n the least one of its class. -/
def LeastIn (D : Nat → Nat → Prop) (n : Nat) (out : List Int) : Prop := out.length = n ∧ ∀ v, v < n → ∃ m : Nat, rd out (v : Int) = (m : Int) ∧ m < n ∧ Cl D v m ∧ ∀ w, Cl D v w → m ≤ w
theorem LeastIn.congr {D E : Nat → Nat → Prop} {n : Nat} {out : List Int} (h : LeastIn D n out) (he : ∀ u v, D u v ↔ E u v) : LeastIn E n out := by
  have e : D = E := funext fun u => funext fun v => propext (he u v)
  rw [← e]; exact h
def joinAt (x y : Int) (out : List Int) (i : Nat) : List Int := mr out.length (fun v => if v < i ∧ rd out (v : Int) = mx x y then mn x y else rd out (v : Int))
theorem mx_or (x y : Int) : (mx x y = x ∧ mn x y = y ∧ y ≤ x) ∨ (mx x y = y ∧ mn x y = x ∧ x ≤ y) := by unfold mx mn; omega
theorem LeastIn.join {D : Nat → Nat → Prop} {n : Nat} {out : List Int} (h : LeastIn D n out) {a b : Nat} (ha : a < n) (hb : b < n) :
    LeastIn (fun x y => D x y ∨ (x = a ∧ y = b)) n (joinAt (rd out (a : Int)) (rd out (b : Int)) out out.length) := by
  obtain ⟨hl, hv⟩ := h
  obtain ⟨x, hx1, hx2, hx3, hx4⟩ := hv a ha
  obtain ⟨y, hy1, hy2, hy3, hy4⟩ := hv b hb
  refine ⟨by unfold joinAt; rw [mr_len, hl], fun v hvn => ?_⟩
  obtain ⟨m, hm1, hm2, hm3, hm4⟩ := hv v hvn
  have e : rd (joinAt (rd out (a : Int)) (rd out (b : Int)) out out.length) (v : Int) = if rd out (v : Int) = mx (rd out (a : Int)) (rd out (b : Int)) then mn (rd out (a : Int)) (rd out (b : Int)) else rd out (v : Int) := by
    unfold joinAt
    rw [rd_nat, mr_get _ _ (by omega)]
    by_cases c : rd out (v : Int) = mx (rd out (a : Int)) (rd out (b : Int))
    · rw [if_pos ⟨by omega, c⟩, if_pos c]
    · rw [if_neg (fun h => c h.2), if_neg c]
  rw [e, hx1, hy1, hm1]
  -- the class of v holds a, or b, or neither
  have same : ∀ {p q : Nat}, Cl D v p → (∀ w, Cl D p w → q ≤ w) → Cl D p q → m = q := fun h1 h2 h3 => by
    have := h2 m (h1.symm.trans hm3)
    have := hm4 _ (h1.trans h3)
    omega
  by_cases ca : Cl D v a
  · obtain rfl := same ca hx4 hx3
    have hr : (if (m : Int) = mx (m : Int) (y : Int) then mn (m : Int) (y : Int) else (m : Int)) = mn (m : Int) (y : Int) := by
      rcases mx_or (m : Int) (y : Int) with ⟨e1, e2, _⟩ | ⟨e1, e2, _⟩
      · rw [if_pos e1.symm]
      · by_cases c : (m : Int) = mx (m : Int) (y : Int)
        · rw [if_pos c]
        · rw [if_neg c, e2]
    rw [hr]
    refine ⟨min m y, by unfold mn; omega, by omega, ?_, fun w hw => ?_⟩
    · rcases Nat.le_total m y with h | h
      · rw [Nat.min_eq_left h]; exact Cl.add.2 (.inl hm3)
      · rw [Nat.min_eq_right h]; exact Cl.add.2 (.inr (.inl ⟨ca, hy3⟩))
    · rcases Cl.add.1 hw with h | ⟨h1, h2⟩ | ⟨h1, h2⟩
      · have := hm4 w h; omega
      · have := hy4 w h2; omega
      · have := hm4 w (ca.trans h2); omega
  · by_cases cb : Cl D v b
    · obtain rfl := same cb hy4 hy3
      have hr : (if (m : Int) = mx (x : Int) (m : Int) then mn (x : Int) (m : Int) else (m : Int)) = mn (x : Int) (m : Int) := by
        rcases mx_or (x : Int) (m : Int) with ⟨e1, e2, _⟩ | ⟨e1, e2, _⟩
        · by_cases c : (m : Int) = mx (x : Int) (m : Int)
          · rw [if_pos c]
          · rw [if_neg c, e2]
        · rw [if_pos e1.symm]
      rw [hr]
      refine ⟨min x m, by unfold mn; omega, by omega, ?_, fun w hw => ?_⟩
      · rcases Nat.le_total x m with h | h
        · rw [Nat.min_eq_left h]; exact Cl.add.2 (.inr (.inr ⟨cb, hx3⟩))
        · rw [Nat.min_eq_right h]; exact Cl.add.2 (.inl hm3)
      · rcases Cl.add.1 hw with h | ⟨h1, h2⟩ | ⟨h1, h2⟩
        · have := hm4 w h; omega
        · have := hm4 w (cb.trans h2); omega
        · have := hx4 w h2; omega
    · have nx : (m : Int) ≠ (x : Int) := fun h => ca (by
        obtain rfl : m = x := by omega
        exact hm3.trans hx3.symm)
      have ny : (m : Int) ≠ (y : Int) := fun h => cb (by
        obtain rfl : m = y := by omega
        exact hm3.trans hy3.symm)
      rw [if_neg (by rcases mx_or (x : Int) (y : Int) with ⟨e1, _⟩ | ⟨e1, _⟩ <;> rw [e1] <;> assumption)]
      refine ⟨m, rfl, hm2, Cl.add.2 (.inl hm3), fun w hw => ?_⟩
      rcases Cl.add.1 hw with h | ⟨h1, h2⟩ | ⟨h1, h2⟩
      · exact hm4 w h
      · exact absurd h1 ca
      · exact absurd h1 cb
theorem joinAt_zero (x y : Int) (out : List Int) : joinAt x y out 0 = out := by
  refine ext_rd (by unfold joinAt; rw [mr_len]) fun i hi => ?_
  unfold joinAt at hi ⊢
  rw [mr_len] at hi
  rw [rd_nat, mr_get _ _ hi, if_neg (fun h => absurd h.1 (Nat.not_lt_zero _))]
theorem joinAt_len (x y : Int) (out : List Int) (i : Nat) : (joinAt x y out i).length = out.length := by unfold joinAt; rw [mr_len]
theorem joinAt_at (x y : Int) (out : List Int) {i : Nat} (hi : i < out.length) : rd (joinAt x y out i) (i : Int) = rd out (i : Int) := by
  unfold joinAt
  rw [rd_nat, mr_get _ _ hi, if_neg (fun h => absurd h.1 (Nat.lt_irrefl _))]
theorem joinAt_succ (x y : Int) (out : List Int) {i : Nat} (hi : i < out.length) : joinAt x y out (i + 1) = if rd out (i : Int) = mx x y then (joinAt x y out i).set i (mn x y) else joinAt x y out i := by
  by_cases c : rd out (i : Int) = mx x y
  · rw [if_pos c]
    unfold joinAt
    rw [mr_set]
    refine mr_congr fun v hv => ?_
    by_cases e : v = i
    · subst e; rw [if_pos rfl, if_pos ⟨Nat.lt_succ_self _, c⟩]
    · rw [if_neg e]
      have : (v < i + 1 ∧ rd out (v : Int) = mx x y) ↔ (v < i ∧ rd out (v : Int) = mx x y) := ⟨fun h => ⟨by omega, h.2⟩, fun h => ⟨by omega, h.2⟩⟩
      simp only [this]
  · rw [if_neg c]
    unfold joinAt
    refine mr_congr fun v hv => ?_
    have : (v < i + 1 ∧ rd out (v : Int) = mx x y) ↔ (v < i ∧ rd out (v : Int) = mx x y) := ⟨fun h => ⟨by
      by_cases e : v = i
      · subst e; exact absurd h.2 c
      · omega, h.2⟩, fun h => ⟨by omega, h.2⟩⟩
    simp only [this]
/-- The pairs of places and their consumers, through i transitions and j arcs of the next one. -/
def Dn (ts : List Tra) (K i j : Nat) (u v : Nat) : Prop := ∃ t, v = K + t ∧ ((t < i ∧ (u : Int) ∈ (ts.getD t zT).f1.map (·.f0)) ∨ (t = i ∧ (u : Int) ∈ ((ts.getD i zT).f1.take j).map (·.f0)))
section
variable {nm : ByteArray} {ps : List Pla} {ts : List Tra}
theorem Dn_arc {K i j p : Nat} (hj : j < (ts.getD i zT).f1.length) (hp : ((ts.getD i zT).f1.getD j zA).f0 = (p : Int)) (u v : Nat) : (Dn ts K i j u v ∨ (u = p ∧ v = K + i)) ↔ Dn ts K i (j + 1) u v := by
  unfold Dn
  rw [take_map_succ _ _ zA hj, hp]
  constructor
  · rintro (⟨t, e, h | ⟨e2, h⟩⟩ | ⟨rfl, rfl⟩)
    · exact ⟨t, e, .inl h⟩
    · exact ⟨t, e, .inr ⟨e2, List.mem_append.2 (.inl h)⟩⟩
    · exact ⟨i, rfl, .inr ⟨rfl, by simp⟩⟩
  · rintro ⟨t, e, h | ⟨e2, h⟩⟩
    · exact .inl ⟨t, e, .inl h⟩
    · rcases List.mem_append.1 h with h | h
      · exact .inl ⟨t, e, .inr ⟨e2, h⟩⟩
      · simp at h
        exact .inr ⟨by omega, by omega⟩
theorem Dn_next {K i : Nat} (u v : Nat) : Dn ts K i (ts.getD i zT).f1.length u v ↔ Dn ts K (i + 1) 0 u v := by
  unfold Dn
  rw [List.take_length]
  constructor
  · rintro ⟨t, e, ⟨h1, h2⟩ | ⟨rfl, h⟩⟩
    · exact ⟨t, e, .inl ⟨by omega, h2⟩⟩
    · exact ⟨t, e, .inl ⟨by omega, h⟩⟩
  · rintro ⟨t, e, ⟨h1, h2⟩ | ⟨_, h⟩⟩
    · by_cases c : t = i
      · subst c; exact ⟨t, e, .inr ⟨rfl, h2⟩⟩
      · exact ⟨t, e, .inl ⟨by omega, h2⟩⟩
    · simp at h
/-- All pairs. -/
def Da (ts : List Tra) (K : Nat) (u v : Nat) : Prop := ∃ t, v = K + t ∧ t < ts.length ∧ (u : Int) ∈ (ts.getD t zT).f1.map (·.f0)
theorem clus_ev (V : ValidN nm ps ts) (hT : Thin ts) : ∃ c, Ev (fun k => netclass_Clusters.f k nm ps ts) c ∧ LeastIn (Da ts ps.length) (ps.length + ts.length) c := by
  have hp := V.p
  have ht := V.t
  have hv := validS_iff.2 V
  have n0 : LeastIn (Dn ts ps.length 0 0) (ps.length + ts.length) (mr (ps.length + ts.length) (fun v => (v : Int))) := by
    refine ⟨mr_len _ _, fun v hvn => ⟨v, by rw [rd_nat, mr_get _ _ hvn], hvn, .refl, fun w hw => ?_⟩⟩
    have none : ∀ a b, ¬ Dn ts ps.length 0 0 a b := fun a b ⟨t, _, h⟩ => by
      rcases h with h | h
      · omega
      · simp at h
    have : ∀ {a b}, Cl (Dn ts ps.length 0 0) a b → a = b := fun h => by
      induction h with
      | refl => rfl
      | step _ e _ => exact absurd e (fun e => e.elim (none _ _) (none _ _))
    rw [this hw]; exact Nat.le_refl _
  -- the rows of pairs
  have rows : ∀ i, i ≤ ts.length → ∀ out, LeastIn (Dn ts ps.length i 0) (ps.length + ts.length) out → ∃ c, Ev (fun k => netclass_Clusters.l1 k (ps.length : Int) out ts (ts.length : Int) (i : Int)) c ∧ LeastIn (Dn ts ps.length ts.length 0) (ps.length + ts.length) c := by
    intro i hi out ho
    obtain ⟨d, hd⟩ : ∃ d, ts.length - i = d := ⟨_, rfl⟩
    induction d generalizing i out with
    | zero =>
      obtain rfl : i = ts.length := by omega
      exact ⟨out, Ev.one (fun k => by simp only [netclass_Clusters.l1]; rw [if_neg (by omega)]), ho⟩
    | succ d ih =>
      have hi' : i < ts.length := by omega
      obtain ⟨_, ha1, _, _⟩ := V.arcs hi'
      have hl1 := (hT.at hi').2.1
      have arcs : ∀ j, j ≤ (ts.getD i zT).f1.length → ∀ out, LeastIn (Dn ts ps.length i j) (ps.length + ts.length) out → ∃ o2, LeastIn (Dn ts ps.length (i + 1) 0) (ps.length + ts.length) o2 ∧ ∀ r, Ev (fun k => netclass_Clusters.l1 k (ps.length : Int) o2 ts (ts.length : Int) ((i + 1 : Nat) : Int)) r → Ev (fun k => netclass_Clusters.l2 k (ps.length : Int) out (i : Int) ts (ts.length : Int) (i : Int) (ts.getD i zT).f1 ((ts.getD i zT).f1.length : Int) (j : Int)) r := by
        intro j hj out ho
        obtain ⟨e, he⟩ : ∃ e, (ts.getD i zT).f1.length - j = e := ⟨_, rfl⟩
        induction e generalizing j out with
        | zero =>
          obtain rfl : j = (ts.getD i zT).f1.length := by omega
          exact ⟨out, ho.congr Dn_next, fun r hr => Ev.step (fun k => by simp only [netclass_Clusters.l2]; rw [if_neg (by omega), wrap_up hi' (by omega)]) hr⟩
        | succ e ih2 =>
          have hj' : j < (ts.getD i zT).f1.length := by omega
          obtain ⟨a0, a1, _, _, _⟩ := arcsE_zero ha1 j hj'
          obtain ⟨p, hpp⟩ : ∃ p : Nat, ((ts.getD i zT).f1.getD j zA).f0 = (p : Int) := ⟨_, (Int.toNat_of_nonneg a0).symm⟩
          have hpk : p < ps.length := by omega
          have hol := ho.1
          obtain ⟨o2, h1, h2⟩ := ih2 (j + 1) (by omega) _ ((ho.join (a := p) (b := ps.length + i) (by omega) (by omega)).congr (Dn_arc hj' hpp)) (by omega)
          refine ⟨o2, h1, fun r hr => ?_⟩
          have hK := Aside0.mk (show wrap64 ((ps.length : Int) + (i : Int)) = ((ps.length + i : Nat) : Int) by rw [wrap_ok (by omega) (by omega)]; omega)
          have q0 : (0 : Int) ≤ (p : Int) := Int.natCast_nonneg p
          have q1 : (p : Int) < (out.length : Int) := by rw [hol]; omega
          have q2 : (0 : Int) ≤ ((ps.length + i : Nat) : Int) := Int.natCast_nonneg _
          have q3 : ((ps.length + i : Nat) : Int) < (out.length : Int) := by rw [hol]; omega
          have q4 : out.length ≤ 48 := by rw [hol]; omega
          refine Ev.step (f := fun k => netclass_Clusters.l3 k (ps.length : Int) (joinAt (rd out (p : Int)) (rd out ((ps.length + i : Nat) : Int)) out 0) (i : Int) (rd out (p : Int)) (rd out ((ps.length + i : Nat) : Int)) ts (ts.length : Int) (i : Int) (ts.getD i zT).f1 ((ts.getD i zT).f1.length : Int) (j : Int) (out.length : Int) ((0 : Nat) : Int)) (fun k => by
            simp only [netclass_Clusters.l2]
            rw [if_pos (by omega), if_pos (by omega), if_pos (by omega), rdA, hpp, if_pos q0, if_pos q1, hK.out, if_pos q2, if_pos q3, joinAt_zero]; rfl) ?_
          refine Ev_up (L := fun k v => netclass_Clusters.l3 k (ps.length : Int) (joinAt (rd out (p : Int)) (rd out ((ps.length + i : Nat) : Int)) out v) (i : Int) (rd out (p : Int)) (rd out ((ps.length + i : Nat) : Int)) ts (ts.length : Int) (i : Int) (ts.getD i zT).f1 ((ts.getD i zT).f1.length : Int) (j : Int) (out.length : Int) (v : Int)) (n := out.length) (fun v hvn hr2 => ?_) (Ev.step (fun k => by simp only [netclass_Clusters.l3]; rw [if_neg (by omega), wrap_up hj' (by omega)]) (h2 r hr))
          refine Ev.step (fun k => ?_) hr2
          simp only [netclass_Clusters.l3]
          rw [if_pos (by omega), if_pos (by omega), if_pos (by rw [joinAt_len]; omega), joinAt_at _ _ _ hvn, joinAt_succ _ _ _ hvn, wrap_up hvn (Nat.le_trans q4 (by decide)), Int.toNat_natCast]
          by_cases c : rd out (v : Int) = mx (rd out (p : Int)) (rd out ((ps.length + i : Nat) : Int))
          · rw [if_pos c, if_pos c]
          · rw [if_neg c, if_neg c]
      obtain ⟨o2, h1, h2⟩ := arcs 0 (Nat.zero_le _) out ho
      obtain ⟨c, hc1, hc2⟩ := ih (i + 1) (by omega) o2 h1 (by omega)
      exact ⟨c, Ev.step (fun k => by simp only [netclass_Clusters.l1]; rw [if_pos (by omega), if_pos (by omega), if_pos (by omega), rdT]; rfl) (h2 c hc1), hc2⟩
  obtain ⟨c, hc1, hc2⟩ := rows 0 (Nat.zero_le _) _ n0
  refine ⟨c, ?_, hc2.congr fun u v => ?_⟩
  · unfold netclass_Clusters.f
    refine Ev.bind (nvalid_ev nm hT) ?_
    rw [hv]
    simp only [↓reduceIte]
    rw [wrap_ok (by omega) (by omega)]
    refine Ev.congr (f := fun k => netclass_Clusters.l0 k (ps.length : Int) (mr (ps.length + ts.length) (fun v => if v < 0 then (v : Int) else 0)) ((ps.length + ts.length : Nat) : Int) ((0 : Nat) : Int) nm ps ts) (fun k => by
      rw [if_pos (by omega), if_pos (by omega), show (((ps.length : Int) + (ts.length : Int)) : Int).toNat = ps.length + ts.length by omega]
      simp only [Option.bind_some]
      rw [List.length_replicate, mr_rep, mr_congr (g := fun v => if v < 0 then (v : Int) else 0) (fun v _ => by rw [if_neg (Nat.not_lt_zero _)])]; rfl) ?_
    refine Ev_up (L := fun k i => netclass_Clusters.l0 k (ps.length : Int) (mr (ps.length + ts.length) (fun v => if v < i then (v : Int) else 0)) ((ps.length + ts.length : Nat) : Int) (i : Int) nm ps ts) (n := ps.length + ts.length) (fun i hi hr => Ev.step (fun k => ?_) hr) (Ev.step (fun k => ?_) hc1)
    · simp only [netclass_Clusters.l0]
      rw [if_pos (by omega), if_pos (by omega), if_pos (by rw [mr_len]; omega), Int.toNat_natCast, mr_set, wrap_up hi (by omega)]
      congr 1
      refine mr_congr fun v hv => ?_
      by_cases e : v = i
      · subst e; rw [if_pos rfl, if_pos (by omega)]
      · rw [if_neg e]
        by_cases h : v < i
        · rw [if_pos h, if_pos (by omega)]
        · rw [if_neg h, if_neg (by omega)]
    · simp only [netclass_Clusters.l0]
      rw [if_neg (by omega), mr_congr (g := fun v => (v : Int)) (fun v hv => if_pos hv)]
      rfl
  · unfold Dn Da
    constructor
    · rintro ⟨t, e, h | ⟨_, h⟩⟩
      · exact ⟨t, e, h⟩
      · simp at h
    · rintro ⟨t, e, h⟩
      exact ⟨t, e, .inl h⟩
theorem clus_no (hv : validS nm ps ts = false) (hT : Thin ts) : Ev (fun k => netclass_Clusters.f k nm ps ts) [] := by
  unfold netclass_Clusters.f
  refine Ev.bind (nvalid_ev nm hT) ?_
  rw [hv]
  exact Ev.some _
/-! ### the reference's -/
theorem LeastIn.uniq {D : Nat → Nat → Prop} {n : Nat} {a b : List Int} (h : LeastIn D n a) (k : LeastIn D n b) : a = b := by
  refine ext_rd (by rw [h.1, k.1]) fun i hi => ?_
  obtain ⟨m, e1, _, c1, l1⟩ := h.2 i (by have := h.1; omega)
  obtain ⟨m', e2, _, c2, l2⟩ := k.2 i (by have := h.1; omega)
  have := l1 m' c2
  have := l2 m c1
  rw [e1, e2]; omega
end
end Go.Proofs.Ytplljicodflagaa.Pl
namespace Go.Proofs.Ytplljicodflagaa.Pure
open Go.RowKit Go.Proofs.Ytplljicodflagaa.P Go.Proofs.Ytplljicodflagaa.Pl Go.Proofs.YtplljicodflagaaW.PrintWords
theorem sorted_ext : ∀ {a b : List Int}, a.Pairwise (· < ·) → b.Pairwise (· < ·) → (∀ x, x ∈ a ↔ x ∈ b) → a = b
  | [], [], _, _, _ => rfl
  | [], b :: bs, _, _, h => absurd ((h b).2 (by simp)) (by simp)
  | a :: ar, [], _, _, h => absurd ((h a).1 (by simp)) (by simp)
  | a :: ar, b :: bs, h1, h2, h => by
    rw [List.pairwise_cons] at h1 h2
    have e : a = b := by
      rcases List.mem_cons.1 ((h a).1 (by simp)) with e | e
      · exact e
      · rcases List.mem_cons.1 ((h b).2 (by simp)) with e2 | e2
        · exact e2.symm
        · have := h1.1 b e2
          have := h2.1 a e
          omega
    subst e
    congr 1
    refine sorted_ext h1.2 h2.2 fun x => ⟨fun hx => ?_, fun hx => ?_⟩
    · rcases List.mem_cons.1 ((h x).1 (List.mem_cons_of_mem _ hx)) with e | e
      · have := h1.1 x hx; omega
      · exact e
    · rcases List.mem_cons.1 ((h x).2 (List.mem_cons_of_mem _ hx)) with e | e
      · have := h2.1 x hx; omega
      · exact e
theorem places_sorted {np : Int} {l : List Ac} (h : arcsE np l = 0) : (l.map (·.f0)).Pairwise (· < ·) := by
  rw [List.pairwise_iff_getElem]
  intro i j hi hj hij
  rw [List.length_map] at hi hj
  have := arcs_lt h hij hj
  rw [List.getD_eq_getElem?_getD, List.getElem?_eq_getElem hi, List.getD_eq_getElem?_getD, List.getElem?_eq_getElem hj] at this
  rw [List.getElem_map, List.getElem_map]
  exact this
def Inp (ts : List Tra) (q t : Nat) : Prop := (q : Int) ∈ (ts.getD t zT).f1.map (·.f0)
section
variable {nm : ByteArray} {ps : List Pla} {ts : List Tra}
theorem inp_lt (V : ValidN nm ps ts) {x : Int} {t : Nat} (ht : t < ts.length) (h : x ∈ (ts.getD t zT).f1.map (·.f0)) : 0 ≤ x ∧ x < (ps.length : Int) := by
  obtain ⟨a, ha, e⟩ := List.mem_map.1 h
  obtain ⟨i, hi, rfl⟩ := List.getElem_of_mem ha
  have hb := arcsE_zero (V.arcs ht).2.1 i hi
  rw [List.getD_eq_getElem?_getD, List.getElem?_eq_getElem hi] at hb
  rw [← e]
  exact ⟨hb.1, hb.2.1⟩
theorem cm_inp (V : ValidN nm ps ts) {q t : Nat} (ht : t < ts.length) : Cm ts q t ↔ Inp ts q t := weight_pos (V.arcs ht).2.1 _
/-- In a free-choice net the transitions of a cluster have the same inputs. -/
theorem free_same (V : ValidN nm ps ts) (hf : freeP ps ts) {u t : Nat} (hu : u < ts.length) (ht : t < ts.length) (h : Cl (Da ts ps.length) (ps.length + u) (ps.length + t)) : (ts.getD u zT).f1.map (·.f0) = (ts.getD t zT).f1.map (·.f0) := by
  have inv : ∀ v, Cl (Da ts ps.length) (ps.length + u) v → (ps.length ≤ v → ∀ q, Inp ts q (v - ps.length) ↔ Inp ts q u) ∧ (v < ps.length → ∀ t, t < ts.length → Inp ts v t → ∀ q, Inp ts q t ↔ Inp ts q u) := by
    intro v hv
    induction hv with
    | refl => exact ⟨fun _ q => by rw [show ps.length + u - ps.length = u by omega], fun h => by omega⟩
    | @step v w _ e ih =>
      rcases e with ⟨t, rfl, ht, hm⟩ | ⟨t, rfl, ht, hm⟩
      · have hv := (inp_lt V ht hm).2
        exact ⟨fun _ q => by rw [show ps.length + t - ps.length = t by omega]; exact ih.2 (by omega) t ht hm q, fun h => by omega⟩
      · have hw := (inp_lt V ht hm).2
        refine ⟨fun h => by omega, fun _ t' ht' hm' q => ?_⟩
        have h1 := ih.1 (by omega) q
        rw [show ps.length + t - ps.length = t by omega] at h1
        rw [← h1]
        constructor
        · intro hq
          have hql := (inp_lt V ht' hq).2
          exact (cm_inp V ht).1 ((hf w (by omega) q (by omega) ⟨t', ht', (cm_inp V ht').2 hm', (cm_inp V ht').2 hq⟩).1 t ht ((cm_inp V ht).2 hm))
        · intro hq
          have hql := (inp_lt V ht hq).2
          exact (cm_inp V ht').1 ((hf w (by omega) q (by omega) ⟨t, ht, (cm_inp V ht).2 hm, (cm_inp V ht).2 hq⟩).1 t' ht' ((cm_inp V ht').2 hm'))
  have h1 := (inv _ h).1 (by omega)
  rw [show ps.length + t - ps.length = t by omega] at h1
  refine sorted_ext (places_sorted (V.arcs hu).2.1) (places_sorted (V.arcs ht).2.1) fun x => ⟨fun hx => ?_, fun hx => ?_⟩
  · obtain ⟨q, rfl⟩ : ∃ q : Nat, x = (q : Int) := ⟨x.toNat, by have := (inp_lt V hu hx).1; omega⟩
    exact (h1 q).2 hx
  · obtain ⟨q, rfl⟩ : ∃ q : Nat, x = (q : Int) := ⟨x.toNat, by have := (inp_lt V ht hx).1; omega⟩
    exact (h1 q).1 hx
end
theorem least_same {D : Nat → Nat → Prop} {n : Nat} {c : List Int} (h : LeastIn D n c) {u v : Nat} (hu : u < n) (hv : v < n) : rd c (u : Int) = rd c (v : Int) ↔ Cl D u v := by
  obtain ⟨a, e1, _, c1, l1⟩ := h.2 u hu
  obtain ⟨b, e2, _, c2, l2⟩ := h.2 v hv
  rw [e1, e2]
  constructor
  · intro e
    obtain rfl : a = b := by omega
    exact c1.trans c2.symm
  · intro h
    have := l1 b (h.trans c2)
    have := l2 a (h.symm.trans c1)
    omega
theorem idle (c : List Int) (x4 : Bool) (nm : ByteArray) (ps : List Pla) (ts : List Tra) (h : x4 = true → c.length = 0) : Ev (fun k => petrinetlaw13_NetclassSpreads.j0 k x4 c true nm ps ts) true := by
  refine Ev.step (f := fun k => (petrinetlaw13_alive.f k).bind fun t => some t) (fun k => ?_) alive'
  simp only [petrinetlaw13_NetclassSpreads.j0]
  rw [if_pos trivial]
  by_cases c4 : x4 = true
  · rw [if_pos c4, if_pos (by rw [h c4]; rfl)]
  · rw [if_neg c4]
theorem NetclassSpreads (nm : ByteArray) (ps : List Pla) (ts : List Tra) {w : Prop} (_h : w) : ∃ k, petrinetlaw13_NetclassSpreads.f k nm ps ts = some true := by
  refine Ev.rounds (g := fun k => petrinetlaw13_NetclassSpreads.f k nm ps ts) ?_
  unfold petrinetlaw13_NetclassSpreads.f
  refine Ev.bind (small_ev nm ps ts) ?_
  cases hs : smallS nm ps ts with
  | false =>
    simp only [smallR, Bool.false_eq_true, ↓reduceIte]
    have hv : validS ⟨#[]⟩ [] [] = false := Bool.eq_false_iff.2 fun h => by have := (validS_iff.1 h).p0; simp at this
    exact Ev.bind (clus_no hv (fun t ht => by cases ht)) (idle _ _ _ _ _ (fun h => by cases h))
  | true =>
    have hS := smallS_true hs
    have hT := hS.thin
    have hp : ps.length ≤ 1000000 := Nat.le_trans hS.p (by decide)
    have ht : ts.length ≤ 1000000 := Nat.le_trans hS.t (by decide)
    simp only [smallR, ↓reduceIte]
    cases hv : validS nm ps ts with
    | false =>
      refine Ev.bind (clus_no hv hT) ?_
      have hr := refvalid_ev nm (ps := ps) hT
      rw [hv] at hr
      exact Ev.bind hr (idle _ _ _ _ _ (fun _ => rfl))
    | true =>
      have V := validS_iff.1 hv
      have hK := V.p
      have hT2 := V.t
      obtain ⟨c, hc, hL⟩ := clus_ev V hT
      have hcl := hL.1
      refine Ev.bind hc ?_
      have hr := refvalid_ev nm (ps := ps) hT
      rw [hv] at hr
      refine Ev.bind hr ?_
      refine Ev.step (f := fun k => petrinetlaw13_NetclassSpreads.l0 k c (ps.length : Int) ((0 : Nat) : Int) nm ps ts) (fun k => by
        simp only [petrinetlaw13_NetclassSpreads.j0]
        rw [if_neg (by decide), if_pos (by rw [wrap_ok (by omega) (by omega)]; omega)]; rfl) ?_
      refine Ev_up (L := fun k i => petrinetlaw13_NetclassSpreads.l0 k c (ps.length : Int) (i : Int) nm ps ts) (n := c.length) (fun v hvn hr => Ev.step (fun k => ?_) hr) ?_
      · obtain ⟨m, e1, m1, c1, l1⟩ := hL.2 v (by omega)
        obtain ⟨m', e2, _, c2, l2⟩ := hL.2 m m1
        have hmv := l1 v .refl
        have em : m' = m := by
          have := l2 m .refl
          have := l1 m' (c1.trans c2)
          omega
        rw [em] at e2
        simp only [petrinetlaw13_NetclassSpreads.l0]
        rw [if_pos (by omega), if_pos (by omega), e1, if_neg (by omega), if_neg (by omega), if_pos (by omega), if_pos (by omega), e2, if_pos rfl, wrap_up hvn (by omega)]
      · refine Ev.step (fun k => by simp only [petrinetlaw13_NetclassSpreads.l0]; rw [if_neg (by omega)]) ?_
        refine Ev.bind (free_ev hp ht hT) ?_
        rw [hv]
        generalize hfr : freeS (basicS true ps ts) ps ts = fr
        refine Ev_up (L := fun k i => petrinetlaw13_NetclassSpreads.l1 k c (ps.length : Int) fr (i : Int) nm ps ts) (n := ts.length) (fun t htn hr => ?_) (Ev.step (fun k => by simp only [petrinetlaw13_NetclassSpreads.l1]; rw [if_neg (by omega)]) alive')
        have wK : ∀ x : Nat, x < ts.length → wrap64 ((ps.length : Int) + (x : Int)) = ((ps.length + x : Nat) : Int) := fun x hx => by rw [wrap_ok (by omega) (by omega)]; omega
        obtain ⟨_, a1, _, _⟩ := V.arcs htn
        have l1 := (hT.at htn).2.1
        refine Ev.step (f := fun k => petrinetlaw13_NetclassSpreads.l2 k c (ps.length : Int) fr (t : Int) ((0 : Nat) : Int) nm ps ts) (fun k => by simp only [petrinetlaw13_NetclassSpreads.l1]; rw [if_pos (by omega)]; rfl) ?_
        refine Ev_up (L := fun k i => petrinetlaw13_NetclassSpreads.l2 k c (ps.length : Int) fr (t : Int) (i : Int) nm ps ts) (n := (ts.getD t zT).f1.length) (fun i hi hr1 => Ev.step (fun k => ?_) hr1) ?_
        · obtain ⟨b0, b1, _, _, _⟩ := arcsE_zero a1 i hi
          obtain ⟨p, hpp⟩ : ∃ p : Nat, ((ts.getD t zT).f1.getD i zA).f0 = (p : Int) := ⟨_, (Int.toNat_of_nonneg b0).symm⟩
          have hpk : p < ps.length := by omega
          have hsame : rd c (p : Int) = rd c ((ps.length + t : Nat) : Int) := (least_same hL (by omega) (by omega)).2 (Cl.one (.inl ⟨t, rfl, htn, by
            rw [← hpp]; exact List.mem_map.2 ⟨_, getD_mem _ zA hi, rfl⟩⟩))
          simp only [petrinetlaw13_NetclassSpreads.l2]
          rw [if_pos (by omega), if_pos (by omega), rdT, if_pos (by omega), if_pos (by omega), rdA, hpp, if_pos (by omega), if_pos (by omega), wK t htn, if_pos (by omega), if_pos (by omega), if_pos hsame, wrap_up hi (by omega)]
        · refine Ev.step (f := fun k => petrinetlaw13_NetclassSpreads.l3 k c (ps.length : Int) fr (t : Int) ((0 : Nat) : Int) nm ps ts) (fun k => by
            simp only [petrinetlaw13_NetclassSpreads.l2]
            rw [if_pos (by omega), if_pos (by omega), rdT, if_neg (by omega)]; rfl) ?_
          have fin : ∀ i : Int, Ev (fun k => petrinetlaw13_NetclassSpreads.j5 k c (ps.length : Int) fr (t : Int) i false nm ps ts) true := fun i => Ev.step (fun k => by
            simp only [petrinetlaw13_NetclassSpreads.j5]
            rw [if_neg Bool.false_ne_true, wrap_up htn (by omega)]) hr
          cases fr with
          | false =>
            refine Ev.step (f := fun k => petrinetlaw13_NetclassSpreads.j5 k c (ps.length : Int) false (t : Int) ((0 : Nat) : Int) false nm ps ts) (fun k => by
              simp only [petrinetlaw13_NetclassSpreads.l3]
              by_cases c0 : ((0 : Nat) : Int) < (t : Int)
              · rw [if_pos c0]
              · rw [if_neg c0]) (fin _)
          | true =>
            unfold freeS at hfr
            have hfp := (of_dec hfr).2
            refine Ev_up (L := fun k i => petrinetlaw13_NetclassSpreads.l3 k c (ps.length : Int) true (t : Int) (i : Int) nm ps ts) (n := t) (fun u hut hr2 => ?_) (Ev.step (fun k => by simp only [petrinetlaw13_NetclassSpreads.l3]; rw [if_neg (by omega)]) (fin _))
            have hun : u < ts.length := by omega
            refine Ev.step (f := fun k => petrinetlaw13_NetclassSpreads.j5 k c (ps.length : Int) true (t : Int) (u : Int) true nm ps ts) (fun k => by simp only [petrinetlaw13_NetclassSpreads.l3]; rw [if_pos (by omega)]) ?_
            refine Ev.step (fun k => by
              simp only [petrinetlaw13_NetclassSpreads.j5]
              rw [if_pos trivial, wK u hun, wK t htn, if_pos (by omega), if_pos (by omega), if_pos (by omega), if_pos (by omega), wrap_up hut (by omega)]) ?_
            by_cases ce : rd c ((ps.length + u : Nat) : Int) = rd c ((ps.length + t : Nat) : Int)
            · have hsame := free_same V hfp hun htn ((least_same hL (by omega) (by omega)).1 ce)
              refine Ev.congr (fun k => by rw [if_pos ce, if_pos (by omega), if_pos (by omega), rdT]) ?_
              refine Ev.bind (reftargets_ev _ (hT.at hun).2.1) ?_
              refine Ev.congr (fun k => by rw [if_pos (by omega), if_pos (by omega), rdT]) ?_
              refine Ev.bind (reftargets_ev _ (hT.at htn).2.1) ?_
              refine Ev.bind (same_ev _ _ (by rw [List.length_map]; exact Nat.le_trans (hT.at hun).2.1 (by decide))) ?_
              exact Ev.congr (fun k => if_pos (decide_eq_true hsame)) hr2
            · exact Ev.congr (fun k => if_neg ce) hr2
end Go.Proofs.Ytplljicodflagaa.Pure
