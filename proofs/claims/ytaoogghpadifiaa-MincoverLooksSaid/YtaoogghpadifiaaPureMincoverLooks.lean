/- The plain law of MincoverLooks: for every set and marking the law's function answers true, with rounds enough. -/
-- MERGED: the plain texts that it needs, in one
import Derived.Test.YtaoogghpadifiaaPx9
import Derived.Test.YtaoogghpadifiaaPx6
import Derived.Test.YtaoogghpadifiaaVAll
import Derived.Test.YtaoogghpadifiaaPx1
import Derived.Laws.Strings
import Derived.WideShapes
import Derived.Test.YtaoogghpadifiaaPx0
import Derived.Test.YtaoogghpadifiaaPx3
set_option linter.unusedVariables false
set_option linter.unusedSimpArgs false
namespace Go.Proofs.Ytaoogghpadifiaa.Pl
open Go.RowKit Go.Proofs.YtaoogghpadifiaaW.PrintWords Go.Proofs.YtaoogghpadifiaaW.PrintMore
theorem wrap_ok {x : Int} (h0 : -9223372036854775808 ≤ x) (h1 : x ≤ 9223372036854775807) : wrap64 x = x := by unfold wrap64; omega
theorem wrap_up {i n : Nat} (h : i < n) (hn : n ≤ 9223372036854775807) : wrap64 ((i : Int) + 1) = ((i + 1 : Nat) : Int) := by rw [wrap_ok (by omega) (by omega)]; omega
theorem Ev.some {α : Type} (r : α) : Ev (fun _ => Option.some r) r := ⟨0, fun _ _ => rfl⟩
theorem Ev.one {α : Type} {g : Nat → Option α} {r : α} (h : ∀ k, g (k + 1) = Option.some r) : Ev g r := Ev.step h (Ev.some r)
section
variable {α : Type}
theorem rd_nat (xs : List Int) (i : Nat) : rd xs (i : Int) = xs.getD i 0 := by simp [rd]
end
def firstOr {ρ : Type} (p : Nat → Option ρ) (e : ρ) : Nat → Nat → ρ
 | _, 0 => e
 | i, d + 1 => match p i with | some r => r | none => firstOr p e (i + 1) d
theorem firstOr_congr {ρ : Type} {p q : Nat → Option ρ} {e : ρ} : ∀ (d i : Nat), (∀ j, i ≤ j → j < i + d → p j = q j) → firstOr p e i d = firstOr q e i d
 | 0, _, _ => rfl
 | d + 1, i, h => by
  unfold firstOr
  rw [h i (Nat.le_refl _) (by omega)]
  cases q i with
  | some r => rfl
  | none => exact firstOr_congr d (i + 1) (fun j h1 h2 => h j (by omega) (by omega))
theorem firstOr_cases {ρ : Type} (p : Nat → Option ρ) (e : ρ) : ∀ (d i : Nat), (firstOr p e i d = e ∧ ∀ j, i ≤ j → j < i + d → p j = none) ∨ ∃ j, i ≤ j ∧ j < i + d ∧ p j = some (firstOr p e i d) ∧ ∀ m, i ≤ m → m < j → p m = none
 | 0, i => .inl ⟨rfl, fun j h1 h2 => by omega⟩
 | d + 1, i => by
  unfold firstOr
  cases h : p i with
  | some r => exact .inr ⟨i, Nat.le_refl _, by omega, h, fun m h1 h2 => by omega⟩
  | none =>
   rcases firstOr_cases p e d (i + 1) with ⟨h1, h2⟩ | ⟨j, h1, h2, h3, h4⟩
   ·refine .inl ⟨h1, fun j j1 j2 => ?_⟩
    by_cases hj : j = i
    ·rw [hj]; exact h
    ·exact h2 j (by omega) (by omega)
   ·refine .inr ⟨j, by omega, by omega, h3, fun m m1 m2 => ?_⟩
    by_cases hm : m = i
    ·rw [hm]; exact h
    ·exact h4 m (by omega) m2
def first {ρ : Type} (p : Nat → Option ρ) (e : ρ) (n : Nat) : ρ := firstOr p e 0 n
theorem first_congr {ρ : Type} {p q : Nat → Option ρ} {e : ρ} {n : Nat} (h : ∀ j, j < n → p j = q j) : first p e n = first q e n := firstOr_congr n 0 (fun j _ h2 => h j (by omega))
theorem first_cases {ρ : Type} (p : Nat → Option ρ) (e : ρ) (n : Nat) : (first p e n = e ∧ ∀ j, j < n → p j = none) ∨ ∃ j, j < n ∧ p j = some (first p e n) ∧ ∀ m, m < j → p m = none := by
 rcases firstOr_cases p e n 0 with ⟨h1, h2⟩ | ⟨j, _, h2, h3, h4⟩
 ·exact .inl ⟨h1, fun j h => h2 j (Nat.zero_le _) (by omega)⟩
 ·exact .inr ⟨j, by omega, h3, fun m h => h4 m (Nat.zero_le _) h⟩
theorem Ev_firstFrom {ρ : Type} {L : Nat → Nat → Option ρ} {n : Nat} (p : Nat → Option ρ) {e : ρ}
  (go : ∀ i, i < n → p i = none → ∀ r, Ev (fun k => L k (i + 1)) r → Ev (fun k => L k i) r)
  (stop : ∀ i r, i < n → p i = some r → Ev (fun k => L k i) r) (fin : (∀ j, j < n → p j = none) → Ev (fun k => L k n) e) :
  ∀ (d i : Nat), i + d = n → (∀ j, j < i → p j = none) → Ev (fun k => L k i) (firstOr p e i d) := by
 intro d
 induction d with
 | zero =>
  intro i hi hb
  obtain rfl : i = n := by omega
  exact fin hb
 | succ d ih =>
  intro i hi hb
  unfold firstOr
  cases h : p i with
  | some r => exact stop i r (by omega) h
  | none => exact go i (by omega) h _ (ih (i + 1) (by omega) (fun j hj => by
    by_cases e : j = i
    ·rw [e]; exact h
    ·exact hb j (by omega)))
theorem Ev_first' {ρ : Type} {L : Nat → Nat → Option ρ} {n : Nat} (p : Nat → Option ρ) {e : ρ}
  (go : ∀ i, i < n → p i = none → ∀ r, Ev (fun k => L k (i + 1)) r → Ev (fun k => L k i) r)
  (stop : ∀ i r, i < n → p i = some r → Ev (fun k => L k i) r) (fin : (∀ j, j < n → p j = none) → Ev (fun k => L k n) e) : Ev (fun k => L k 0) (first p e n) :=
 Ev_firstFrom p go stop fin n 0 (by omega) (fun j h => by omega)
theorem Ev_first {ρ : Type} {L : Nat → Nat → Option ρ} {n : Nat} (p : Nat → Option ρ) {e : ρ}
  (go : ∀ i, i < n → p i = none → ∀ r, Ev (fun k => L k (i + 1)) r → Ev (fun k => L k i) r)
  (stop : ∀ i r, i < n → p i = some r → Ev (fun k => L k i) r) (fin : Ev (fun k => L k n) e) : Ev (fun k => L k 0) (first p e n) :=
 Ev_first' p go stop (fun _ => fin)
theorem Ev_up {ρ : Type} {L : Nat → Nat → Option ρ} {n : Nat} {r : ρ}
  (go : ∀ i, i < n → Ev (fun k => L k (i + 1)) r → Ev (fun k => L k i) r) (fin : Ev (fun k => L k n) r) : Ev (fun k => L k 0) r := by
 have h : ∀ d i, i + d = n → Ev (fun k => L k i) r := by
  intro d
  induction d with
  | zero =>
   intro i hi
   obtain rfl : i = n := by omega
   exact fin
  | succ d ih => intro i hi; exact go i (by omega) (ih (i + 1) (by omega))
 exact h n 0 (by omega)
theorem take_map_succ {α β : Type} (l : List α) (f : α → β) (z : α) {i : Nat} (h : i < l.length) : (l.take (i + 1)).map f = (l.take i).map f ++ [f (l.getD i z)] := by
 rw [List.take_succ_eq_append_getElem h, List.map_append, List.getD_eq_getElem?_getD, List.getElem?_eq_getElem h]
 rfl
theorem getD_mem {α : Type} (l : List α) (z : α) {i : Nat} (h : i < l.length) : l.getD i z ∈ l := by
 rw [List.getD_eq_getElem?_getD, List.getElem?_eq_getElem h]
 exact List.getElem_mem h
theorem Ev.stepn {α : Type} {g f : Nat → Option α} {r : α} (m : Nat) (h : ∀ k, g (k + m) = f k) (hf : Ev f r) : Ev g r := by
 obtain ⟨K, hK⟩ := hf
 exact ⟨K + m, fun k hk => by obtain ⟨d, rfl⟩ : ∃ d, k = d + m := ⟨k - m, by omega⟩; rw [h]; exact hK d (by omega)⟩
theorem of_ite_none {α : Type} {c : Prop} [Decidable c] {a : α} (h : (if c then none else some a) = none) : c := Classical.byContradiction fun hn => by rw [if_neg hn] at h; cases h
theorem of_ite_some {α : Type} {c : Prop} [Decidable c] {a r : α} (h : (if c then none else some a) = some r) : ¬ c ∧ a = r := by
 by_cases hc : c
 ·rw [if_pos hc] at h; cases h
 ·rw [if_neg hc] at h; exact ⟨hc, Option.some.inj h⟩
def stepO {ρ : Type} (a : Option ρ) (b : Option ρ) : Option ρ := match a with | some r => some r | none => b
theorem Ev_loop {ρ : Type} {L : Nat → Nat → Option ρ} {n : Nat} (m : Nat) (p : Nat → Option ρ) {e : ρ}
  (step : ∀ k i, i < n → L (k + m) i = stepO (p i) (L k (i + 1))) (fin : Ev (fun k => L k n) e) : Ev (fun k => L k 0) (first p e n) :=
 Ev_first p (fun i hi hp r hr => Ev.stepn m (fun k => by rw [step k i hi, hp]; rfl) hr) (fun i r hi hp => Ev.stepn m (f := fun _ => some r) (fun k => by rw [step k i hi, hp]; rfl) (Ev.some r)) fin
theorem first_any {ρ : Type} (c : Nat → Prop) [DecidablePred c] (a e : ρ) (n : Nat) : first (fun j => if c j then some a else none) e n = if ∃ j, j < n ∧ c j then a else e := by
 rcases first_cases (fun j => if c j then some a else none) e n with ⟨h1, h2⟩ | ⟨j, h1, h2, h3⟩
 ·rw [h1, if_neg]
  rintro ⟨j, hj, hc⟩
  have := h2 j hj
  simp [hc] at this
 ·have hc : c j := by
   refine Classical.byContradiction fun hn => ?_
   simp [hn] at h2
  rw [if_pos ⟨j, h1, hc⟩]
  simp [hc] at h2
  exact h2.symm
theorem dec_t {p : Prop} {i : Decidable p} (h : p) : @decide p i = true := decide_eq_true h
theorem dec_f {p : Prop} {i : Decidable p} (h : ¬ p) : @decide p i = false := decide_eq_false h
theorem of_dec {p : Prop} {i : Decidable p} (h : @decide p i = true) : p := of_decide_eq_true h
theorem Ev_ex {ρ : Type} {L : Nat → Nat → Option ρ} {n : Nat} (c : Nat → Prop) {a e r : ρ}
  (yes : ∀ i, i < n → c i → Ev (fun k => L k i) a)
  (no : ∀ i, i < n → ¬ c i → ∀ r, Ev (fun k => L k (i + 1)) r → Ev (fun k => L k i) r)
  (fin : (∀ j, j < n → ¬ c j) → Ev (fun k => L k n) e) (ha : (∃ j, j < n ∧ c j) → r = a) (he : (∀ j, j < n → ¬ c j) → r = e) : Ev (fun k => L k 0) r := by
 have go : ∀ d i, i + d = n → (∀ j, j < i → ¬ c j) → Ev (fun k => L k i) r := by
  intro d
  induction d with
  | zero =>
   intro i hi hb
   obtain rfl : i = n := by omega
   rw [he hb]
   exact fin hb
  | succ d ih =>
   intro i hi hb
   by_cases h : c i
   ·rw [ha ⟨i, by omega, h⟩]
    exact yes i (by omega) h
   ·exact no i (by omega) h _ (ih (i + 1) (by omega) (fun j hj => by
     by_cases e : j = i
     ·rw [e]; exact h
     ·exact hb j (by omega)))
 exact go n 0 (by omega) (fun j h => by omega)
theorem Ev_st {ρ σ : Type} {L : Nat → σ → Int → Option ρ} {n : Nat} {r : ρ} (s : Nat → σ)
  (go : ∀ i, i < n → Ev (fun k => L k (s (i + 1)) ((i + 1 : Nat) : Int)) r → Ev (fun k => L k (s i) (i : Int)) r) (fin : Ev (fun k => L k (s n) (n : Int)) r) : Ev (fun k => L k (s 0) 0) r :=
 Ev_up (L := fun k i => L k (s i) (i : Int)) (n := n) go fin
abbrev mr {α : Type} (n : Nat) (f : Nat → α) : List α := (List.range n).map f
theorem mr_get {α : Type} {n v : Nat} (f : Nat → α) (d : α) (h : v < n) : (mr n f).getD v d = f v := by
 rw [List.getD_eq_getElem?_getD, List.getElem?_map, List.getElem?_range h]; rfl
theorem mr_len {α : Type} (n : Nat) (f : Nat → α) : (mr n f).length = n := by rw [List.length_map, List.length_range]
theorem mr_congr {α : Type} {n : Nat} {f g : Nat → α} (h : ∀ v, v < n → f v = g v) : mr n f = mr n g := List.map_congr_left fun v hv => h v (List.mem_range.1 hv)
theorem mr_set {α : Type} {n p : Nat} (f : Nat → α) (x : α) : (mr n f).set p x = mr n (fun v => if v = p then x else f v) := by
 refine List.ext_getElem? fun i => ?_
 rw [List.getElem?_set, List.getElem?_map, List.getElem?_map, List.length_map, List.length_range]
 by_cases hi : i < n
 ·rw [List.getElem?_range hi]
  by_cases e : p = i
  ·subst e; simp [hi]
  ·simp [e, Ne.symm e]
 ·rw [List.getElem?_eq_none (by simpa using hi)]
  by_cases e : p = i
  ·subst e; simp [hi]
  ·simp [e]
theorem mr_rep {α : Type} (n : Nat) (x : α) : List.replicate n x = mr n (fun _ => x) := by
 refine List.ext_getElem (by simp) fun i h1 h2 => by simp
theorem Ev.up {α : Type} {g : Nat → Option α} {r : α} (h : Ev (fun k => g (k + 1)) r) : Ev g r := Ev.step (fun _ => rfl) h
theorem nn (i : Nat) : 0 ≤ (i : Int) := Int.natCast_nonneg i
theorem lt_int {i n : Nat} (h : i < n) : (i : Int) < (n : Int) := by omega
open Go.Proofs.Ytaoogghpadifiaa.P
set_option maxRecDepth 100000 in
theorem alive : Ev (fun k => petrinetlaw23_exampleHolds.f k) true := Ev.of (fun k => petrinetlaw23_exampleHolds.mono k) (k := 60) (by decide +kernel)
theorem alive' : Ev (fun k => (petrinetlaw23_exampleHolds.f k).bind fun t => some t) true := Ev.bind alive (Ev.some _)
abbrev Tra := S38
abbrev Ac := S68
abbrev zT : Tra := z38
abbrev zA : Ac := z68
def ThinT (t : Tra) : Prop := t.f0.size ≤ 1000000 ∧ t.f1.length ≤ 1000000 ∧ t.f2.length ≤ 1000000 ∧ t.f3.length ≤ 1000000
def Thin (ts : List Tra) : Prop := ∀ t ∈ ts, ThinT t
theorem Thin.at {ts : List Tra} (h : Thin ts) {i : Nat} (hi : i < ts.length) : ThinT (ts.getD i zT) := h _ (getD_mem ts zT hi)
def weightS (l : List Ac) (p : Int) : Int := first (fun i => if (l.getD i zA).f0 = p then some (l.getD i zA).f1 else none) 0 l.length
theorem ext_getD {α : Type} (z : α) {a b : List α} (hl : a.length = b.length) (h : ∀ i, i < a.length → a.getD i z = b.getD i z) : a = b := by
 refine List.ext_getElem hl (fun i h1 h2 => ?_)
 have := h i h1
 rw [List.getD_eq_getElem?_getD, List.getD_eq_getElem?_getD, List.getElem?_eq_getElem h1, List.getElem?_eq_getElem h2] at this
 exact this
def okN (k : Int) : Bool := if k = -1 then true else if k < 0 ∨ k > 1048576 then false else true
theorem okN_iff {k : Int} : okN k = true ↔ k = -1 ∨ (0 ≤ k ∧ k ≤ 1048576) := by
 unfold okN
 by_cases h : k = -1
 ·rw [if_pos h]; exact ⟨fun _ => Or.inl h, fun _ => rfl⟩
 ·rw [if_neg h]
  by_cases c : k < 0 ∨ k > 1048576
  ·rw [if_pos c]; exact ⟨fun h => (by cases h), fun h2 => by omega⟩
  ·rw [if_neg c]; exact ⟨fun _ => by omega, fun _ => rfl⟩
def moreS (a b : Int) : Bool := if a = -1 ∨ b = -1 then decide (a = -1 ∧ b ≠ -1) else decide (a > b)
def le1 (a b : Int) : Prop := b = -1 ∨ (a ≠ -1 ∧ b ≠ -1 ∧ a ≤ b)
structure Om (n : Nat) (m : List Int) : Prop where
 len : m.length = n
 ok : ∀ i, i < n → okN (m.getD i 0) = true
theorem Om.cases {n : Nat} {m : List Int} (h : Om n m) {i : Nat} (hi : i < n) : m.getD i 0 = -1 ∨ (0 ≤ m.getD i 0 ∧ m.getD i 0 ≤ 1048576) := okN_iff.1 (h.ok i hi)
def omS (m : List Int) (n : Int) : Bool := if (m.length : Int) = n then first (fun i => if okN (m.getD i 0) = true then none else some false) true m.length else false
theorem omS_iff {m : List Int} {n : Nat} : omS m (n : Int) = true ↔ Om n m := by
 unfold omS
 by_cases h : (m.length : Int) = (n : Int)
 ·have hl : m.length = n := by omega
  rw [if_pos h]
  rcases first_cases (fun i => if okN (m.getD i 0) = true then none else some false) true m.length with ⟨h1, h2⟩ | ⟨j, h1, h2, _⟩
  ·rw [h1]
   exact ⟨fun _ => ⟨hl, fun i hi => of_ite_none (h2 i (by omega))⟩, fun _ => rfl⟩
  ·obtain ⟨c1, c2⟩ := of_ite_some h2
   rw [← c2]
   exact ⟨fun h => (by cases h), fun h3 => absurd (h3.ok j (by omega)) c1⟩
 ·rw [if_neg h]
  exact ⟨fun h => (by cases h), fun h3 => absurd (by rw [h3.len]) h⟩
theorem omS_self {m : List Int} : omS m (m.length : Int) = true ↔ Om m.length m := omS_iff
def Le (a b : List Int) : Prop := ∀ i, i < a.length → le1 (a.getD i 0) (b.getD i 0)
def leqS (a b : List Int) : Bool := if omS a (b.length : Int) = true then if omS b (b.length : Int) = true then first (fun i => if moreS (a.getD i 0) (b.getD i 0) = true then some false else none) true a.length else false else false
def Fin (m : List Int) : Prop := ∀ i, i < m.length → m.getD i 0 ≠ -1
theorem ext0 {a b : List Int} (hl : a.length = b.length) (h : ∀ i, i < a.length → a.getD i 0 = b.getD i 0) : a = b := ext_getD 0 hl h
def Can (t : Tra) (m : List Int) : Prop := ∀ p, p < m.length → m.getD p 0 = -1 ∨ weightS t.f1 (p : Int) ≤ m.getD p 0
theorem Can.mono {t : Tra} {a b : List Int} (h : Can t a) (hl : a.length = b.length) (ha : Fin a) (k : Le a b) : Can t b := fun p hp => by
 have h1 := h p (by omega)
 have h2 := k p (by omega)
 have h3 := ha p (by omega)
 unfold le1 at h2
 omega
def keepS (a : List (List Int)) (m : List Int) : Bool := if omS m (m.length : Int) = true then if a.length = 0 ∨ (a.getD 0 []).length = m.length then true else false else false
def conS : List (List Int) → List (List Int) → List (List Int)
 | a, [] => a
 | a, m :: r => conS (if keepS a m = true then a ++ [m] else a) r
def Alike (n : Nat) (l : List (List Int)) : Prop := ∀ x ∈ l, Om n x
theorem Alike.get {n : Nat} {l : List (List Int)} (h : Alike n l) {i : Nat} (hi : i < l.length) : Om n (l.getD i []) := h _ (getD_mem l [] hi)
theorem conS_alike : ∀ (l a : List (List Int)) (n : Nat), Alike n a → (a ≠ [] ∨ ∃ n', n' = n) → ∃ n', Alike n' (conS a l) ∧ (a ≠ [] → n' = n)
 | [], a, n, h, _ => ⟨n, h, fun _ => rfl⟩
 | m :: r, a, n, h, _ => by
  unfold conS
  by_cases c : keepS a m = true
  ·rw [if_pos c]
   unfold keepS at c
   by_cases d : omS m (m.length : Int) = true
   ·rw [if_pos d] at c
    have om := omS_self.1 d
    cases a with
    | nil =>
     obtain ⟨n', h1, h2⟩ := conS_alike r ([] ++ [m]) m.length (fun x hx => by simp at hx; rw [hx]; exact om) (Or.inr ⟨_, rfl⟩)
     exact ⟨n', h1, fun h => absurd rfl h⟩
    | cons z a =>
     have hz := h z (List.mem_cons_self ..)
     have e : m.length = n := by
      by_cases g : (z :: a).length = 0 ∨ ((z :: a).getD 0 []).length = m.length
      ·rcases g with g | g
       ·simp at g
       ·rw [← g]; exact hz.len
      ·rw [if_neg g] at c; cases c
     obtain ⟨n', h1, h2⟩ := conS_alike r (z :: a ++ [m]) n (fun x hx => by
      rcases List.mem_append.1 hx with hx | hx
      ·exact h x hx
      ·simp at hx; rw [hx, ← e]; exact om) (Or.inr ⟨_, rfl⟩)
     exact ⟨n', h1, fun _ => h2 (by simp)⟩
   ·rw [if_neg d] at c; cases c
  ·rw [if_neg c]
   exact conS_alike r a n h (Or.inr ⟨_, rfl⟩)
theorem conS_ok (l : List (List Int)) : ∃ n, Alike n (conS [] l) := by
 obtain ⟨n, h, _⟩ := conS_alike l [] 0 (fun x hx => by cases hx) (Or.inr ⟨_, rfl⟩)
 exact ⟨n, h⟩
theorem mvalid_one (x : Int) : Ev (fun k => marking_Valid.f k [x] 1) (if x < 0 ∨ x > 1048576 then false else true) := by
 refine Ev.stepn 2 (f := fun _ => some (if x < 0 ∨ x > 1048576 then false else true)) (fun k => ?_) (Ev.some _)
 have e : rd [x] 0 = x := rfl
 have w : wrap64 (0 + 1) = 1 := by rw [wrap_ok (by omega) (by omega)]; rfl
 simp only [marking_Valid.f, marking_Valid.l0, List.length_singleton, Int.ofNat_one, Int.natCast_one, e, w, ↓reduceIte, Int.reduceLT, Int.reduceLE, Int.lt_irrefl]
 by_cases c : x < 0
 ·rw [if_pos c, if_pos (Or.inl c)]
 ·rw [if_neg c]
  by_cases d : x > 1048576
  ·rw [if_pos d, if_pos (Or.inr d)]
  ·rw [if_neg d, if_neg (by omega)]
theorem omvalid_ev (m : List Int) (n : Int) (hm : m.length ≤ 17592186043904) : Ev (fun k => omega_Valid.f k m n) (omS m n) := by
 unfold omega_Valid.f omS
 by_cases h : (m.length : Int) = n
 ·rw [if_pos h]
  simp only [h, ↓reduceIte]
  rw [← h]
  have step : ∀ (i : Nat), i < m.length → ∀ r, ((if okN (m.getD i 0) = true then Ev (fun k => omega_Valid.l0 k m (m.length : Int) ((i + 1 : Nat) : Int)) r else r = false)) → Ev (fun k => omega_Valid.l0 k m (m.length : Int) (i : Int)) r := by
   intro i hi r hr
   refine Ev.up ?_
   simp only [omega_Valid.l0, lt_int hi, nn, ↓reduceIte, rd_nat, wrap_up hi (by omega : m.length ≤ 9223372036854775807)]
   unfold okN at hr
   by_cases c : m.getD i 0 = -1
   ·simp only [c, ↓reduceIte] at hr ⊢
    exact hr
   ·simp only [c, ↓reduceIte] at hr ⊢
    refine Ev.bind (mvalid_one _) ?_
    by_cases d : m.getD i 0 < 0 ∨ m.getD i 0 > 1048576
    ·simp only [d, ↓reduceIte, Bool.false_eq_true] at hr ⊢
     rw [hr]; exact Ev.some _
    ·simp only [d, ↓reduceIte, Bool.false_eq_true] at hr ⊢
     exact hr
  refine Ev_first (L := fun k i => omega_Valid.l0 k m (m.length : Int) (i : Int)) (fun i => if okN (m.getD i 0) = true then none else some false) (fun i hi hp r hr => step i hi r ?_) (fun i r hi hp => step i hi r ?_) (Ev.one (fun k => by simp only [omega_Valid.l0]; rw [if_neg (by omega)]))
  ·rw [if_pos (of_ite_none hp)]; exact hr
  ·obtain ⟨h1, h2⟩ := of_ite_some hp
   rw [if_neg h1]; exact h2.symm
 ·simp only [h, ↓reduceIte]
  exact Ev.some _
def rk (k : Int) : Int := if k = -1 then 1048577 else k
theorem rank_eq (k : Int) : omega_rank.f k = some (rk k) := by
 unfold omega_rank.f rk
 by_cases h : k = -1
 ·rw [if_pos h, if_pos h]
 ·rw [if_neg h, if_neg h]
theorem rk_more {a b : Int} (ha : okN a = true) (hb : okN b = true) : (rk a > rk b) ↔ moreS a b = true := by
 have h1 := okN_iff.1 ha
 have h2 := okN_iff.1 hb
 unfold rk moreS
 by_cases c : a = -1
 ·rw [if_pos c, if_pos (Or.inl c)]
  by_cases d : b = -1
  ·rw [if_pos d, dec_f (by omega)]
   exact ⟨fun h => by omega, fun h => by cases h⟩
  ·rw [if_neg d, dec_t ⟨c, d⟩]
   exact ⟨fun _ => rfl, fun _ => by omega⟩
 ·rw [if_neg c]
  by_cases d : b = -1
  ·rw [if_pos d, if_pos (Or.inr d), dec_f (by omega)]
   exact ⟨fun h => by omega, fun h => by cases h⟩
  ·rw [if_neg d, if_neg (by omega)]
   exact ⟨fun h => dec_t h, fun h => of_dec h⟩
theorem ranks_ev (m : List Int) (hm : m.length ≤ 17592186043904) : Ev (fun k => omega_ranks.f k m) (mr m.length (fun i => rk (m.getD i 0))) := by
 unfold omega_ranks.f
 simp only [nn, Int.toNat_natCast, show m.length ≤ 35184372088832 by omega, ↓reduceIte, mr_rep]
 have h := Ev_st (L := fun k s i => omega_ranks.l0 k s m (m.length : Int) i) (n := m.length) (r := mr m.length (fun i => rk (m.getD i 0))) (fun i => mr m.length (fun v => if v < i then rk (m.getD v 0) else 0))
  (fun i hi hr => by
   refine Ev.up ?_
   simp only [omega_ranks.l0, lt_int hi, nn, ↓reduceIte, rd_nat, rank_eq, Option.bind_some, mr_len, Int.toNat_natCast, mr_set, wrap_up hi (by omega : m.length ≤ 9223372036854775807)]
   refine Ev.congr (fun k => ?_) hr
   congr 1
   refine mr_congr fun v hv => ?_
   by_cases c : v = i
   ·rw [if_pos c, if_pos (by omega), c]
   ·rw [if_neg c]
    by_cases d : v < i
    ·rw [if_pos d, if_pos (by omega)]
    ·rw [if_neg d, if_neg (by omega)])
  (by
   refine Ev.one (fun k => ?_)
   simp only [omega_ranks.l0]
   rw [if_neg (by omega)]
   congr 1
   exact mr_congr fun v hv => by rw [if_pos hv])
 refine Ev.congr (fun k => ?_) h
 congr 1
theorem leqm_ev (a b : List Int) (hl : a.length = b.length) (hm : a.length ≤ 17592186043904) : Ev (fun k => marking_Leq.f k a b) (first (fun i => if a.getD i 0 > b.getD i 0 then some false else none) true a.length) := by
 unfold marking_Leq.f
 simp only [show (a.length : Int) = (b.length : Int) by omega, ↓reduceIte]
 rw [show (b.length : Int) = (a.length : Int) by omega]
 refine Ev_loop (L := fun k i => marking_Leq.l0 k a b (a.length : Int) (i : Int)) 1 _ (fun k i hi => ?_) (Ev.one (fun k => by simp only [marking_Leq.l0]; rw [if_neg (by omega)]))
 simp only [marking_Leq.l0, lt_int hi, nn, ↓reduceIte, rd_nat, lt_int (show i < b.length by omega), wrap_up hi (by omega : a.length ≤ 9223372036854775807)]
 by_cases c : a.getD i 0 > b.getD i 0
 ·rw [if_pos c, if_pos c]; rfl
 ·rw [if_neg c, if_neg c]; rfl
theorem leq_ev (a b : List Int) (ha : a.length ≤ 17592186043904) (hb : b.length ≤ 17592186043904) : Ev (fun k => omega_Leq.f k a b) (leqS a b) := by
 unfold omega_Leq.f leqS
 refine Ev.bind (omvalid_ev a _ ha) ?_
 by_cases h1 : omS a (b.length : Int) = true
 ·simp only [h1, ↓reduceIte]
  refine Ev.bind (omvalid_ev b _ hb) ?_
  by_cases h2 : omS b (b.length : Int) = true
  ·simp only [h2, ↓reduceIte]
   refine Ev.bind (ranks_ev a ha) ?_
   refine Ev.bind (ranks_ev b hb) ?_
   have o1 := omS_iff.1 h1
   have o2 := omS_iff.1 h2
   have hl : (mr a.length (fun i => rk (a.getD i 0))).length = (mr b.length (fun i => rk (b.getD i 0))).length := by rw [mr_len, mr_len, o1.len]
   refine Ev.bind (leqm_ev _ _ hl (by rw [mr_len]; exact ha)) ?_
   rw [mr_len]
   rw [first_congr (q := fun i => if moreS (a.getD i 0) (b.getD i 0) = true then some false else none)]
   ·exact Ev.some _
   ·intro i hi
    have hi2 : i < b.length := by rw [← o1.len]; exact hi
    simp only [mr_get _ _ hi, mr_get _ _ hi2]
    have e := rk_more (o1.ok i hi2) (o2.ok i hi2)
    by_cases c : moreS (a.getD i 0) (b.getD i 0) = true
    ·rw [if_pos c, if_pos (e.2 c)]
    ·rw [if_neg c, if_neg (fun x => c (e.1 x))]
  ·simp only [h2]; exact Ev.some _
 ·simp only [h1]; exact Ev.some _
theorem rdL (xs : List (List Int)) (i : Nat) : rd_L11 xs (i : Int) = xs.getD i [] := by simp [rd_L11]
theorem rdL0 (xs : List (List Int)) : rd_L11 xs 0 = xs.getD 0 [] := rdL xs 0
theorem conS_snoc (m : List Int) : ∀ (r a : List (List Int)), conS a (r ++ [m]) = if keepS (conS a r) m = true then conS a r ++ [m] else conS a r
 | [], a => rfl
 | x :: r, a => by
  rw [List.cons_append]
  exact conS_snoc m r (if keepS a x = true then a ++ [x] else a)
theorem take_next {α : Type} (l : List α) (z : α) {i : Nat} (h : i < l.length) : l.take (i + 1) = l.take i ++ [l.getD i z] := by
 rw [List.take_succ_eq_append_getElem h, List.getD_eq_getElem?_getD, List.getElem?_eq_getElem h]; rfl
theorem conS_next (l : List (List Int)) {i : Nat} (h : i < l.length) : conS [] (l.take (i + 1)) = if keepS (conS [] (l.take i)) (l.getD i []) = true then conS [] (l.take i) ++ [l.getD i []] else conS [] (l.take i) := by
 rw [take_next l [] h, conS_snoc]
theorem conS_len : ∀ (r a : List (List Int)), (conS a r).length ≤ a.length + r.length
 | [], a => by unfold conS; omega
 | x :: r, a => by
  have h := conS_len r (if keepS a x = true then a ++ [x] else a)
  have e : (if keepS a x = true then a ++ [x] else a).length ≤ a.length + 1 := by
   split
   ·simp
   ·omega
  have e2 : conS a (x :: r) = conS (if keepS a x = true then a ++ [x] else a) r := rfl
  rw [e2, List.length_cons]; omega
theorem conS_sub : ∀ (r a : List (List Int)) (x : List Int), x ∈ conS a r → x ∈ a ∨ x ∈ r
 | [], a, x, h => Or.inl h
 | y :: r, a, x, h => by
  rcases conS_sub r _ x h with h | h
  ·split at h
   ·rcases List.mem_append.1 h with h | h
    ·exact Or.inl h
    ·rw [List.mem_singleton.1 h]; exact Or.inr (List.mem_cons_self ..)
   ·exact Or.inl h
  ·exact Or.inr (List.mem_cons_of_mem _ h)
theorem keepS_eq (a : List (List Int)) (m : List Int) : keepS a m = if omS m (m.length : Int) = true then (if a.length = 0 then true else decide ((a.getD 0 []).length = m.length)) else false := by
 unfold keepS
 by_cases h : omS m (m.length : Int) = true
 ·rw [if_pos h, if_pos h]
  by_cases c : a.length = 0
  ·rw [if_pos c, if_pos (Or.inl c)]
  ·rw [if_neg c]
   by_cases d : (a.getD 0 []).length = m.length
   ·rw [if_pos (Or.inr d), dec_t d]
   ·rw [if_neg (fun x => x.elim c d), dec_f d]
 ·rw [if_neg h, if_neg h]
theorem refom_ev (m : List Int) (n : Int) (hm : m.length ≤ 17592186043904) : Ev (fun k => r05_Valid.f k m n) (omS m n) := by
 unfold r05_Valid.f omS
 by_cases h : (m.length : Int) = n
 ·simp only [h, ↓reduceIte]
  have e : ∀ i, (if okN (m.getD i 0) = true then none else some false : Option Bool) = if m.getD i 0 = -1 then none else if m.getD i 0 < 0 then some false else if m.getD i 0 > 1048576 then some false else none := by
   intro i
   unfold okN
   by_cases c : m.getD i 0 = -1
   ·rw [if_pos c, if_pos c]; rfl
   ·rw [if_neg c, if_neg c]
    by_cases d : m.getD i 0 < 0
    ·rw [if_pos (Or.inl d), if_pos d]; rfl
    ·rw [if_neg d]
     by_cases d2 : m.getD i 0 > 1048576
     ·rw [if_pos (Or.inr d2), if_pos d2]; rfl
     ·rw [if_neg (show ¬ (m.getD i 0 < 0 ∨ m.getD i 0 > 1048576) by omega), if_neg d2]; rfl
  refine Ev_loop (L := fun k i => r05_Valid.l0 k m (i : Int)) 1 _ (fun k i hi => ?_) (Ev.one (fun k => by simp only [r05_Valid.l0]; rw [if_neg (by omega)]))
  simp only [e]
  simp only [r05_Valid.l0, lt_int hi, nn, ↓reduceIte, rd_nat, wrap_up hi (by omega : m.length ≤ 9223372036854775807)]
  by_cases c : m.getD i 0 = -1
  ·simp only [c, ↓reduceIte]; rfl
  ·by_cases d : m.getD i 0 < 0
   ·simp only [c, d, ↓reduceIte]; rfl
   ·by_cases d2 : m.getD i 0 > 1048576
    ·simp only [c, d, d2, ↓reduceIte]; rfl
    ·simp only [c, d, d2, ↓reduceIte]; rfl
 ·simp only [h, ↓reduceIte]; exact Ev.some _
theorem more_eq (a b : Int) : r05_more.f a b = some (moreS a b) := by
 unfold r05_more.f moreS
 by_cases c : a = -1
 ·rw [if_pos c, if_pos (Or.inl c)]
  congr 1
  by_cases d : b = -1
  ·rw [dec_f (fun x => x.2 d), d]; rfl
  ·rw [dec_t ⟨c, d⟩]; simp [d]
 ·rw [if_neg c]
  by_cases d : b = -1
  ·rw [if_pos d, if_pos (Or.inr d), dec_f (fun x => x.2 d)]
  ·rw [if_neg d, if_neg (by omega)]
theorem refleq_ev (a b : List Int) (ha : a.length ≤ 17592186043904) (hb : b.length ≤ 17592186043904) : Ev (fun k => r05_Leq.f k a b) (leqS a b) := by
 unfold r05_Leq.f leqS
 refine Ev.bind (refom_ev a _ ha) ?_
 by_cases h1 : omS a (b.length : Int) = true
 ·simp only [h1, ↓reduceIte]
  refine Ev.bind (refom_ev b _ hb) ?_
  refine Ev.up ?_
  by_cases h2 : omS b (b.length : Int) = true
  ·simp only [h2, ↓reduceIte, r05_Leq.j0, Bool.not_true, Bool.false_eq_true]
   have hl := (omS_iff.1 h1).len
   refine Ev_loop (L := fun k i => r05_Leq.l0 k a b (i : Int)) 1 _ (fun k i hi => ?_) (Ev.one (fun k => by simp only [r05_Leq.l0]; rw [if_neg (by omega)]))
   simp only [r05_Leq.l0, lt_int hi, lt_int (show i < b.length by omega), nn, ↓reduceIte, rd_nat, more_eq, Option.bind_some, wrap_up hi (by omega : a.length ≤ 9223372036854775807)]
   by_cases c : moreS (a.getD i 0) (b.getD i 0) = true
   ·rw [if_pos c, if_pos c]; rfl
   ·rw [if_neg c, if_neg c]; rfl
  ·have h3 : omS b (b.length : Int) = false := by cases e : omS b (b.length : Int) with | false => rfl | true => exact absurd e h2
   simp only [h3, ↓reduceIte, r05_Leq.j0, Bool.not_false, Bool.false_eq_true]
   exact Ev.some _
 ·simp only [h1, ↓reduceIte, Bool.false_eq_true]
  exact Ev.one (fun k => by simp only [r05_Leq.j0, ↓reduceIte])
theorem refcopy_ev (m : List Int) (hm : m.length ≤ 17592186043904) : Ev (fun k => r04_Copy.f k m) m := by
 unfold r04_Copy.f
 have h := Ev_up (L := fun k i => r04_Copy.l0 k m (m.take i) (i : Int)) (n := m.length) (r := m) (fun i hi hr => by
  refine Ev.up ?_
  have e : m.take (i + 1) = m.take i ++ [m.getD i 0] := by
   have := take_map_succ m id 0 hi
   simpa using this
  rw [e] at hr
  simp only [r04_Copy.l0, lt_int hi, nn, ↓reduceIte, rd_nat, wrap_up hi (by omega : m.length ≤ 9223372036854775807), show (m.take i).length < 17592186044416 by rw [List.length_take]; omega]
  exact hr)
  (Ev.one (fun k => by simp only [r04_Copy.l0]; rw [if_neg (by omega), List.take_length]))
 simpa using h
theorem same04_ev (a b : List Int) (ha : a.length ≤ 17592186043904) : Ev (fun k => r04_Same.f k a b) (decide (a = b)) := by
 unfold r04_Same.f
 by_cases h : (a.length : Int) = (b.length : Int)
 ·simp only [h, ↓reduceIte]
  have hl : a.length = b.length := by omega
  have := Ev_loop (L := fun k i => r04_Same.l0 k a b (i : Int)) (n := a.length) 1 (fun i => if a.getD i 0 = b.getD i 0 then none else some false) (e := true) (fun k i hi => by
   simp only [r04_Same.l0, lt_int hi, nn, ↓reduceIte, rd_nat, lt_int (show i < b.length by omega), wrap_up hi (by omega : a.length ≤ 9223372036854775807)]
   by_cases c : a.getD i 0 = b.getD i 0
   ·simp only [c, ↓reduceIte]; rfl
   ·simp only [c, ↓reduceIte]; rfl) (Ev.one (fun k => by simp only [r04_Same.l0]; rw [if_neg (by omega)]))
  refine Eq.mp ?_ this
  congr 1
  rcases first_cases (fun i => if a.getD i 0 = b.getD i 0 then none else some false) true a.length with ⟨h1, h2⟩ | ⟨j, h1, h2, _⟩
  ·rw [h1, decide_eq_true]
   exact ext_getD 0 hl (fun i hi => of_ite_none (h2 i hi))
  ·obtain ⟨c1, c2⟩ := of_ite_some h2
   rw [← c2, decide_eq_false]
   rintro rfl; exact c1 rfl
 ·simp only [h, ↓reduceIte]
  rw [decide_eq_false (by rintro rfl; exact h rfl)]
  exact Ev.some _
theorem refcon_ev (l : List (List Int)) (hl : l.length ≤ 1000000) (hr : ∀ x ∈ l, x.length ≤ 17592186043904) : Ev (fun k => r05_Considered.f k l) (conS [] l) := by
 unfold r05_Considered.f
 refine Ev_st (L := fun k s i => r05_Considered.l0 k l s i) (n := l.length) (fun i => conS [] (l.take i)) (fun i hi hs => ?_) (Ev.one (fun k => by simp only [r05_Considered.l0, Int.lt_irrefl, ↓reduceIte, List.take_length]))
 have hlen := conS_len (l.take i) []
 rw [List.length_take, List.length_nil] at hlen
 rw [conS_next l hi, keepS_eq] at hs
 generalize conS [] (l.take i) = a at hs hlen ⊢
 have h5 : a.length < 5864062014805 := by omega
 refine Ev.up ?_
 simp only [r05_Considered.l0, lt_int hi, nn, ↓reduceIte, rdL, rdL0, wrap_up hi (by omega : l.length ≤ 9223372036854775807)]
 refine Ev.bind (refom_ev _ _ (hr _ (getD_mem l [] hi))) ?_
 by_cases c : omS (l.getD i []) ((l.getD i []).length : Int) = true
 ·simp only [c, ↓reduceIte] at hs ⊢
  by_cases d : a.length = 0
  ·simp only [d, Int.ofNat_zero, Int.natCast_zero, ↓reduceIte] at hs ⊢
   exact hs
  ·simp only [show ¬ (a.length : Int) = 0 by omega, show (0 : Int) < (a.length : Int) by omega, d, ↓reduceIte] at hs ⊢
   by_cases e : (a.getD 0 []).length = (l.getD i []).length
   ·simp only [show ((l.getD i []).length : Int) = ((a.getD 0 []).length : Int) by omega, e, h5, decide_true, ↓reduceIte] at hs ⊢
    exact hs
   ·simp only [show ¬ ((l.getD i []).length : Int) = ((a.getD 0 []).length : Int) by omega, e, decide_false, Bool.false_eq_true, ↓reduceIte] at hs ⊢
    exact hs
 ·simp only [c, Bool.false_eq_true, ↓reduceIte] at hs ⊢
  exact hs
def stp (a m : Int) : Int := if m = -1 ∨ a = -1 then -1 else if a < m then m else a
def colS (l : List (List Int)) (p : Nat) : Nat → Int
 | 0 => 0
 | i + 1 => stp (colS l p i) ((l.getD i []).getD p 0)
def bndS (l : List (List Int)) : List Int := if l.length = 0 then [] else mr (l.getD 0 []).length (fun p => colS l p l.length)
theorem stp_one {m : Int} (h : okN m = true) : stp 0 m = m ∧ stp m m = m := by
 rw [okN_iff] at h
 unfold stp
 constructor
 ·split
  ·omega
  ·split <;> omega
 ·split
  ·omega
  ·rw [if_neg (Int.lt_irrefl _)]
theorem colS_om {n : Nat} {l : List (List Int)} (h : Alike n l) {p : Nat} (hp : p < n) : ∀ i, i ≤ l.length → okN (colS l p i) = true
 | 0, _ => rfl
 | i + 1, hi => by
  have a := okN_iff.1 (colS_om h hp i (by omega))
  have b := (h.get (i := i) (by omega)).cases hp
  have e : colS l p (i + 1) = stp (colS l p i) ((l.getD i []).getD p 0) := rfl
  rw [okN_iff, e]
  unfold stp
  split
  ·exact Or.inl rfl
  ·split <;> omega
theorem colS_fin {n : Nat} {l : List (List Int)} (h : Alike n l) {p : Nat} (hp : p < n) : ∀ i, i ≤ l.length → (colS l p i = -1 ↔ ∃ j, j < i ∧ (l.getD j []).getD p 0 = -1)
 | 0, _ => ⟨fun e => by unfold colS at e; omega, fun ⟨j, hj, _⟩ => by omega⟩
 | i + 1, hi => by
  have ih := colS_fin h hp i (by omega)
  have a := okN_iff.1 (colS_om h hp i (by omega))
  have b := (h.get (i := i) (by omega)).cases hp
  have e : colS l p (i + 1) = stp (colS l p i) ((l.getD i []).getD p 0) := rfl
  rw [e]
  unfold stp
  by_cases c : (l.getD i []).getD p 0 = -1
  ·rw [if_pos (Or.inl c)]
   exact ⟨fun _ => ⟨i, by omega, c⟩, fun _ => rfl⟩
  ·by_cases d : colS l p i = -1
   ·rw [if_pos (Or.inr d)]
    obtain ⟨j, hj, e2⟩ := ih.1 d
    exact ⟨fun _ => ⟨j, by omega, e2⟩, fun _ => rfl⟩
   ·rw [if_neg (by omega)]
    refine ⟨fun x => ?_, fun ⟨j, hj, e2⟩ => ?_⟩
    ·by_cases g : colS l p i < (l.getD i []).getD p 0
     ·rw [if_pos g] at x; exact absurd x c
     ·rw [if_neg g] at x; exact absurd x d
    ·by_cases g : j = i
     ·subst g; exact absurd e2 c
     ·exact absurd (ih.2 ⟨j, by omega, e2⟩) d
theorem bndS_fin {n : Nat} {l : List (List Int)} (h : Alike n l) : Fin (bndS l) ↔ ∀ i, i < l.length → Fin (l.getD i []) := by
 unfold bndS
 by_cases c : l.length = 0
 ·rw [if_pos c]
  exact ⟨fun _ i hi => by omega, fun _ i hi => by simp at hi⟩
 ·rw [if_neg c]
  have l0 := (h.get (i := 0) (by omega)).len
  constructor
  ·intro hf i hi p hp e
   have hp2 : p < n := by rw [← (h.get hi).len]; exact hp
   have := hf p (by rw [mr_len, l0]; exact hp2)
   rw [mr_get _ _ (by rw [l0]; exact hp2)] at this
   exact this ((colS_fin h hp2 l.length (Nat.le_refl _)).2 ⟨i, hi, e⟩)
  ·intro hf p hp e
   rw [mr_len] at hp
   rw [mr_get _ _ hp] at e
   have hp2 : p < n := by rw [← l0]; exact hp
   obtain ⟨j, hj, e2⟩ := (colS_fin h hp2 l.length (Nat.le_refl _)).1 e
   exact hf j hj p (by rw [(h.get hj).len]; exact hp2) e2
structure FewS (l : List (List Int)) : Prop where
 len : l.length ≤ 1000000
 row : ∀ x ∈ l, x.length ≤ 17592186043904
theorem FewS.con {l : List (List Int)} (h : FewS l) : FewS (conS [] l) := by
 refine ⟨?_, fun x hx => ?_⟩
 ·have := conS_len l []
  rw [List.length_nil] at this
  have := h.len
  omega
 ·rcases conS_sub l [] x hx with g | g
  ·cases g
  ·exact h.row x g
theorem FewS.get {l : List (List Int)} (h : FewS l) {i : Nat} (hi : i < l.length) : (l.getD i []).length ≤ 17592186043904 := h.row _ (getD_mem l [] hi)
theorem elements_ev {l : List (List Int)} (h : FewS l) : Ev (fun k => mincover_elements.f k l) (conS [] l) := by
 have hl := h.len
 unfold mincover_elements.f
 refine Ev_st (L := fun k s i => mincover_elements.l0 k s l (l.length : Int) i) (n := l.length) (fun i => conS [] (l.take i)) (fun i hi hs => ?_) (Ev.one (fun k => by simp only [mincover_elements.l0, Int.lt_irrefl, ↓reduceIte, List.take_length]))
 have hlen := conS_len (l.take i) []
 rw [List.length_take, List.length_nil] at hlen
 rw [conS_next l hi, keepS_eq] at hs
 generalize conS [] (l.take i) = a at hs hlen ⊢
 have h5 : a.length < 5864062014805 := by omega
 refine Ev.up ?_
 simp only [mincover_elements.l0, lt_int hi, nn, ↓reduceIte, rdL, rdL0, wrap_up hi (by omega : l.length ≤ 9223372036854775807)]
 refine Ev.bind (omvalid_ev _ _ (h.get hi)) ?_
 by_cases c : omS (l.getD i []) ((l.getD i []).length : Int) = true
 ·simp only [c, ↓reduceIte] at hs ⊢
  by_cases d : a.length = 0
  ·simp only [d, Int.ofNat_zero, Int.natCast_zero, ↓reduceIte] at hs ⊢
   exact hs
  ·simp only [show ¬ (a.length : Int) = 0 by omega, show (0 : Int) < (a.length : Int) by omega, d, ↓reduceIte] at hs ⊢
   by_cases e : (a.getD 0 []).length = (l.getD i []).length
   ·simp only [show ((a.getD 0 []).length : Int) = ((l.getD i []).length : Int) by omega, e, h5, decide_true, ↓reduceIte] at hs ⊢
    exact hs
   ·simp only [show ¬ ((a.getD 0 []).length : Int) = ((l.getD i []).length : Int) by omega, e, decide_false, Bool.false_eq_true, ↓reduceIte] at hs ⊢
    exact hs
 ·simp only [c, Bool.false_eq_true, ↓reduceIte] at hs ⊢
  exact hs
def finT (m : List Int) : Nat → List Int
 | 0 => []
 | i + 1 => if m.getD i 0 = -1 then finT m i else finT m i ++ [(i : Int)]
theorem finT_succ (m : List Int) (i : Nat) : finT m (i + 1) = if m.getD i 0 = -1 then finT m i else finT m i ++ [(i : Int)] := rfl
theorem finT_len (m : List Int) : ∀ i, (finT m i).length ≤ i
 | 0 => Nat.le_refl _
 | i + 1 => by
  have := finT_len m i
  unfold finT
  split
  ·omega
  ·rw [List.length_append, List.length_singleton]; omega
theorem finT_all (m : List Int) : ∀ i, (finT m i).length = i ↔ ∀ j, j < i → m.getD j 0 ≠ -1
 | 0 => ⟨fun _ j hj => absurd hj (Nat.not_lt_zero _), fun _ => rfl⟩
 | i + 1 => by
  have ih := finT_all m i
  have hl := finT_len m i
  unfold finT
  by_cases c : m.getD i 0 = -1
  ·rw [if_pos c]
   exact ⟨fun h => by omega, fun h => absurd c (h i (Nat.lt_succ_self _))⟩
  ·rw [if_neg c, List.length_append, List.length_singleton]
   constructor
   ·intro h j hj
    by_cases e : j = i
    ·rw [e]; exact c
    ·exact ih.1 (by omega) j (by omega)
   ·intro h
    rw [ih.2 (fun j hj => h j (by omega))]
theorem finT_fin {m : List Int} : (finT m m.length).length = m.length ↔ Fin m := finT_all m m.length
theorem omfinite_ev (m : List Int) (hm : m.length ≤ 17592186043904) : Ev (fun k => omega_Finite.f k m) (finT m m.length) := by
 unfold omega_Finite.f
 refine Ev_st (L := fun k s i => omega_Finite.l0 k s m (m.length : Int) i) (n := m.length) (fun i => finT m i) (fun i hi hs => ?_) (Ev.one (fun k => by simp only [omega_Finite.l0, Int.lt_irrefl, ↓reduceIte]))
 have hl := finT_len m i
 refine Ev.up ?_
 rw [finT_succ] at hs
 simp only [omega_Finite.l0, lt_int hi, nn, ↓reduceIte, rd_nat, show (finT m i).length < 17592186044416 by omega, wrap_up hi (by omega : m.length ≤ 9223372036854775807)]
 by_cases c : m.getD i 0 = -1
 ·simp only [c, ↓reduceIte] at hs ⊢; exact hs
 ·simp only [c, ↓reduceIte] at hs ⊢; exact hs
theorem reffin_ev (m : List Int) (hm : m.length ≤ 17592186043904) : Ev (fun k => r05_Finite.f k m) (finT m m.length) := by
 unfold r05_Finite.f
 refine Ev_st (L := fun k s i => r05_Finite.l0 k m s i) (n := m.length) (fun i => finT m i) (fun i hi hs => ?_) (Ev.one (fun k => by simp only [r05_Finite.l0, Int.lt_irrefl, ↓reduceIte]))
 have hl := finT_len m i
 refine Ev.up ?_
 rw [finT_succ] at hs
 simp only [r05_Finite.l0, lt_int hi, nn, ↓reduceIte, rd_nat, show (finT m i).length < 17592186044416 by omega, wrap_up hi (by omega : m.length ≤ 9223372036854775807)]
 by_cases c : m.getD i 0 = -1
 ·simp only [c, ↓reduceIte] at hs ⊢; exact hs
 ·simp only [c, ↓reduceIte] at hs ⊢; exact hs
def cvS (a m : List Int) : Bool := if (finT m m.length).length = m.length then leqS m a else false
theorem omcovers_ev {a m : List Int} (ha : a.length ≤ 17592186043904) (hm : m.length ≤ 17592186043904) : Ev (fun k => omega_Covers.f k a m) (cvS a m) := by
 unfold omega_Covers.f
 refine Ev_ex (L := fun k i => omega_Covers.l0 k a m m (m.length : Int) (i : Int)) (n := m.length) (fun i => m.getD i 0 = -1) (a := false) (e := leqS m a) (fun i hi c => ?_) (fun i hi c s hs => ?_) (fun c => ?_) (fun c => ?_) (fun c => ?_)
 ·refine Ev.up ?_
  simp only [omega_Covers.l0, lt_int hi, nn, ↓reduceIte, rd_nat, c]
  exact Ev.some _
 ·refine Ev.up ?_
  simp only [omega_Covers.l0, lt_int hi, nn, ↓reduceIte, rd_nat, c, wrap_up hi (by omega : m.length ≤ 9223372036854775807)]
  exact hs
 ·refine Ev.up ?_
  simp only [omega_Covers.l0, Int.lt_irrefl, ↓reduceIte]
  exact Ev.bind (leq_ev m a hm ha) (Ev.some _)
 ·obtain ⟨j, hj, e⟩ := c
  unfold cvS
  rw [if_neg (fun h => finT_fin.1 h j hj e)]
 ·unfold cvS
  rw [if_pos (finT_fin.2 c)]
theorem refcv_ev {a m : List Int} (ha : a.length ≤ 17592186043904) (hm : m.length ≤ 17592186043904) : Ev (fun k => r05_Covers.f k a m) (cvS a m) := by
 unfold r05_Covers.f cvS
 refine Ev.bind (reffin_ev m hm) ?_
 by_cases c : (finT m m.length).length = m.length
 ·simp only [c, ↓reduceIte]
  exact Ev.bind (refleq_ev m a hm ha) (Ev.some _)
 ·simp only [c, show ¬ ((finT m m.length).length : Int) = (m.length : Int) by omega, ↓reduceIte]
  exact Ev.some _
def cvL (l : List (List Int)) (m : List Int) : Bool := first (fun i => if cvS ((conS [] l).getD i []) m = true then some true else none) false (conS [] l).length
theorem mcovers_ev {l : List (List Int)} (h : FewS l) {m : List Int} (hm : m.length ≤ 17592186043904) : Ev (fun k => mincover_Covers.f k l m) (cvL l m) := by
 unfold mincover_Covers.f
 refine Ev.bind (elements_ev h) ?_
 have hc := h.con
 have hl := hc.len
 have e : cvL l m = if ∃ j, j < (conS [] l).length ∧ cvS ((conS [] l).getD j []) m = true then true else false := by unfold cvL; exact first_any _ _ _ _
 rw [e]
 generalize conS [] l = c at hc hl ⊢
 refine Ev_ex (L := fun k i => mincover_Covers.l0 k m c (c.length : Int) (i : Int)) (n := c.length) (fun i => cvS (c.getD i []) m = true) (a := true) (e := false) (fun i hi x => ?_) (fun i hi x s hs => ?_) (fun x => ?_) (fun x => if_pos x) (fun x => if_neg (fun ⟨j, hj, y⟩ => x j hj y))
 ·refine Ev.up ?_
  simp only [mincover_Covers.l0, lt_int hi, nn, ↓reduceIte, rdL]
  refine Ev.bind (omcovers_ev (hc.get hi) hm) ?_
  simp only [x, ↓reduceIte]
  exact Ev.some _
 ·refine Ev.up ?_
  simp only [mincover_Covers.l0, lt_int hi, nn, ↓reduceIte, rdL, wrap_up hi (by omega : c.length ≤ 9223372036854775807)]
  refine Ev.bind (omcovers_ev (hc.get hi) hm) ?_
  simp only [x, Bool.false_eq_true, ↓reduceIte]
  exact hs
 ·refine Ev.up ?_
  simp only [mincover_Covers.l0, Int.lt_irrefl, ↓reduceIte]
  exact Ev.some _
theorem rcovers_ev {l : List (List Int)} (h : FewS l) {m : List Int} (hm : m.length ≤ 17592186043904) : Ev (fun k => r23_Covers.f k l m) (cvL l m) := by
 unfold r23_Covers.f
 refine Ev.bind (refcon_ev l h.len h.row) ?_
 have hc := h.con
 have hl := hc.len
 have e : cvL l m = if ∃ j, j < (conS [] l).length ∧ cvS ((conS [] l).getD j []) m = true then true else false := by unfold cvL; exact first_any _ _ _ _
 rw [e]
 generalize conS [] l = c at hc hl ⊢
 refine Ev_ex (L := fun k i => r23_Covers.l0 k m c (i : Int)) (n := c.length) (fun i => cvS (c.getD i []) m = true) (a := true) (e := false) (fun i hi x => ?_) (fun i hi x s hs => ?_) (fun x => ?_) (fun x => if_pos x) (fun x => if_neg (fun ⟨j, hj, y⟩ => x j hj y))
 ·refine Ev.up ?_
  simp only [r23_Covers.l0, lt_int hi, nn, ↓reduceIte, rdL]
  refine Ev.bind (refcv_ev (hc.get hi) hm) ?_
  simp only [x, ↓reduceIte]
  exact Ev.some _
 ·refine Ev.up ?_
  simp only [r23_Covers.l0, lt_int hi, nn, ↓reduceIte, rdL, wrap_up hi (by omega : c.length ≤ 9223372036854775807)]
  refine Ev.bind (refcv_ev (hc.get hi) hm) ?_
  simp only [x, Bool.false_eq_true, ↓reduceIte]
  exact hs
 ·refine Ev.up ?_
  simp only [r23_Covers.l0, Int.lt_irrefl, ↓reduceIte]
  exact Ev.some _
def rowS (n : Nat) (f g : Nat → Int) (p : Nat) : List Int := mr n (fun q => if q < p then g q else f q)
theorem rowS_zero (n : Nat) (f g : Nat → Int) : rowS n f g 0 = mr n f := mr_congr fun v _ => if_neg (Nat.not_lt_zero _)
theorem rowS_all (n : Nat) (f g : Nat → Int) : rowS n f g n = mr n g := mr_congr fun v hv => if_pos hv
theorem rowS_len (n : Nat) (f g : Nat → Int) (p : Nat) : (rowS n f g p).length = n := mr_len _ _
theorem rowS_get (n : Nat) (f g : Nat → Int) {p : Nat} (hp : p < n) : (rowS n f g p).getD p 0 = f p := by
 unfold rowS
 rw [mr_get _ _ hp, if_neg (Nat.lt_irrefl _)]
theorem rowS_set (n : Nat) (f g : Nat → Int) (p : Nat) : (rowS n f g p).set p (g p) = rowS n f g (p + 1) := by
 unfold rowS
 rw [mr_set]
 refine mr_congr fun v _ => ?_
 by_cases c : v = p
 ·subst c; simp
 ·simp only [c, ↓reduceIte]
  by_cases d : v < p
  ·simp only [d, show v < p + 1 by omega, ↓reduceIte]
  ·simp only [d, show ¬ v < p + 1 by omega, ↓reduceIte]
theorem rowS_same (n : Nat) (f g : Nat → Int) {p : Nat} (h : f p = g p) : rowS n f g p = rowS n f g (p + 1) := by
 refine mr_congr fun v _ => ?_
 by_cases c : v = p
 ·subst c; simp [h]
 ·by_cases d : v < p
  ·simp only [d, show v < p + 1 by omega, ↓reduceIte]
  ·simp only [d, show ¬ v < p + 1 by omega, ↓reduceIte]
theorem mbounds_row {n : Nat} (hn : n ≤ 17592186043904) {l : List (List Int)} {m : List Int} (hm : m.length = n) (hk : ∀ p, p < n → okN (m.getD p 0) = true) {i : Int} (f : Nat → Int) {r : List Int} (h : Ev (fun k => mincover_Bounds.l0 k (mr n (fun p => stp (f p) (m.getD p 0))) l (l.length : Int) (wrap64 (i + 1))) r) :
  Ev (fun k => mincover_Bounds.l1 k (mr n f) l (l.length : Int) i m (m.length : Int) 0) r := by
 rw [← rowS_zero n f (fun p => stp (f p) (m.getD p 0))]
 refine Ev_st (L := fun k s p => mincover_Bounds.l1 k s l (l.length : Int) i m (m.length : Int) p) (n := m.length) (fun p => rowS n f (fun p => stp (f p) (m.getD p 0)) p) (fun p hp hs => ?_) ?_
 ·have hp' : p < n := by omega
  have hg := rowS_get n f (fun p => stp (f p) (m.getD p 0)) hp'
  refine Ev.up ?_
  simp only [mincover_Bounds.l1, lt_int hp, nn, ↓reduceIte, rd_nat, rowS_len, lt_int hp', hg, wrap_up hp (by omega : m.length ≤ 9223372036854775807), Int.toNat_natCast]
  by_cases c : m.getD p 0 = -1
  ·have e : stp (f p) (m.getD p 0) = m.getD p 0 := by unfold stp; rw [if_pos (Or.inl c), c]
   have := rowS_set n f (fun p => stp (f p) (m.getD p 0)) p
   simp only [e] at this
   simp only [c, ↓reduceIte] at this ⊢
   rw [this]
   exact hs
  ·simp only [c, ↓reduceIte]
   by_cases d : f p = -1
   ·simp only [d, ↓reduceIte]
    rw [rowS_same n f _ (show f p = stp (f p) (m.getD p 0) by unfold stp; rw [if_pos (Or.inr d), d])]
    exact hs
   ·simp only [d, ↓reduceIte]
    by_cases g : m.getD p 0 > f p
    ·have e : stp (f p) (m.getD p 0) = m.getD p 0 := by unfold stp; rw [if_neg (by omega), if_pos (by omega)]
     have := rowS_set n f (fun p => stp (f p) (m.getD p 0)) p
     simp only [e] at this
     simp only [g, ↓reduceIte]
     rw [this]
     exact hs
    ·simp only [g, ↓reduceIte]
     rw [rowS_same n f _ (show f p = stp (f p) (m.getD p 0) by unfold stp; rw [if_neg (by omega), if_neg (by omega)])]
     exact hs
 ·refine Ev.up ?_
  rw [hm, rowS_all]
  simp only [mincover_Bounds.l1, Int.lt_irrefl, ↓reduceIte]
  exact h
theorem mbounds_ev {l : List (List Int)} (h : FewS l) : Ev (fun k => mincover_Bounds.f k l) (bndS (conS [] l)) := by
 unfold mincover_Bounds.f
 refine Ev.bind (elements_ev h) ?_
 obtain ⟨n, hA⟩ := conS_ok l
 have hc := h.con
 generalize conS [] l = c at hc hA ⊢
 have hl := hc.len
 by_cases z : c.length = 0
 ·unfold bndS
  rw [if_pos z]
  refine Ev.up ?_
  simp only [mincover_Bounds.l0, z, Int.natCast_zero, Int.ofNat_zero, Int.lt_irrefl, ↓reduceIte]
  exact Ev.some _
 ·have hn : n ≤ 17592186043904 := by rw [← (hA.get (i := 0) (by omega)).len]; exact hc.get (by omega)
  have e0 : bndS c = mr n (fun p => colS c p c.length) := by unfold bndS; rw [if_neg z, (hA.get (i := 0) (by omega)).len]
  rw [e0]
  refine Ev_st (L := fun k s i => mincover_Bounds.l0 k s c (c.length : Int) i) (n := c.length) (fun i => if i = 0 then [] else mr n (fun p => colS c p i)) (fun i hi hs => ?_) ?_
  ·have hrow := hA.get hi
   rw [if_neg (by omega)] at hs
   have key : Ev (fun k => mincover_Bounds.j1 k (mr n (fun p => colS c p i)) c (c.length : Int) (i : Int)) (mr n (fun p => colS c p c.length)) := by
    refine Ev.up ?_
    simp only [mincover_Bounds.j1, nn, lt_int hi, ↓reduceIte, rdL]
    refine mbounds_row hn hrow.len (fun p hp => hrow.ok p hp) _ ?_
    rw [wrap_up hi (by omega : c.length ≤ 9223372036854775807)]
    exact hs
   refine Ev.up ?_
   simp only [mincover_Bounds.l0, lt_int hi, nn, ↓reduceIte, rdL]
   by_cases q : i = 0
   ·subst q
    simp only [Int.natCast_zero, Int.ofNat_zero, ↓reduceIte, nn, Int.toNat_natCast, hrow.len, show n ≤ 35184372088832 by omega] at key ⊢
    rw [mr_rep]
    exact key
   ·simp only [q, show ¬ (i : Int) = 0 by omega, ↓reduceIte]
    exact key
  ·rw [if_neg z]
   exact Ev.one (fun k => by simp only [mincover_Bounds.l0, Int.lt_irrefl, ↓reduceIte])
theorem mx_stp {a m : Int} (ha : a ≠ -1) (hm : m ≠ -1) : mx a m = stp a m := by
 unfold mx stp
 simp only [show ¬ (m = -1 ∨ a = -1) from fun h => h.elim hm ha, ↓reduceIte]
theorem rbounds_row {n : Nat} (hn : n ≤ 17592186043904) {l : List (List Int)} {i : Nat} (hi : i < l.length) {m : List Int} (he : l.getD i [] = m) (hm : m.length = n) (f g : Nat → Int) (hg : ∀ p, p < n → stp (f p) (m.getD p 0) = g p) {r : List Int} (h : Ev (fun k => r23_Bounds.l0 k l (mr n g) (wrap64 ((i : Int) + 1))) r) :
  Ev (fun k => r23_Bounds.l1 k l (mr n f) (i : Int) 0) r := by
 rw [← rowS_zero n f g]
 refine Ev_st (L := fun k s p => r23_Bounds.l1 k l s (i : Int) p) (n := n) (fun p => rowS n f g p) (fun p hp hs => ?_) ?_
 ·have hgt := rowS_get n f g hp
  have hset := rowS_set n f g p
  have hs2 := hg p hp
  refine Ev.up ?_
  simp only [r23_Bounds.l1, rowS_len, lt_int hp, nn, lt_int hi, ↓reduceIte, rdL, he, lt_int (show p < m.length by omega), rd_nat, hgt, wrap_up hp (by omega : n ≤ 9223372036854775807), Int.toNat_natCast]
  by_cases c : m.getD p 0 = -1
  ·have e : g p = -1 := by rw [← hs2]; unfold stp; rw [if_pos (Or.inl c)]
   rw [e] at hset
   simp only [c, ↓reduceIte]
   rw [hset]
   exact hs
  ·simp only [c, ↓reduceIte]
   by_cases d : f p = -1
   ·have e : g p = -1 := by rw [← hs2]; unfold stp; rw [if_pos (Or.inr d)]
    rw [e] at hset
    simp only [d, ↓reduceIte]
    rw [hset]
    exact hs
   ·simp only [d, ↓reduceIte]
    rw [mx_stp d c, hs2, hset]
    exact hs
 ·refine Ev.up ?_
  rw [rowS_all]
  simp only [r23_Bounds.l1, mr_len, Int.lt_irrefl, ↓reduceIte]
  exact h
theorem rbounds_ev {l : List (List Int)} (h : FewS l) : Ev (fun k => r23_Bounds.f k l) (bndS (conS [] l)) := by
 unfold r23_Bounds.f
 refine Ev.bind (refcon_ev l h.len h.row) ?_
 obtain ⟨n, hA⟩ := conS_ok l
 have hc := h.con
 generalize conS [] l = c at hc hA ⊢
 have hl := hc.len
 by_cases z : c.length = 0
 ·unfold bndS
  rw [if_pos z]
  simp only [z, Int.natCast_zero, Int.ofNat_zero, ↓reduceIte]
  exact Ev.some _
 ·have h0 := hA.get (i := 0) (by omega)
  have hn : n ≤ 17592186043904 := by rw [← h0.len]; exact hc.get (by omega)
  have e0 : bndS c = mr n (fun p => colS c p c.length) := by unfold bndS; rw [if_neg z, h0.len]
  rw [e0]
  simp only [show ¬ (c.length : Int) = 0 by omega, show (0 : Int) < (c.length : Int) by omega, ↓reduceIte, rdL0]
  refine Ev.bind (refcopy_ev _ (hc.get (by omega))) ?_
  have e1 : c.getD 0 [] = mr n (fun p => colS c p 1) := ext0 (by rw [mr_len, h0.len]) (fun p hp => by
   rw [h0.len] at hp
   rw [mr_get _ _ hp]
   show _ = stp 0 _
   rw [(stp_one (h0.ok p hp)).1])
  have hstep : ∀ i, i < c.length → ∀ p, p < n → stp (colS c p (max i 1)) ((c.getD i []).getD p 0) = colS c p (max (i + 1) 1) := fun i hi p hp => by
   by_cases q : i = 0
   ·subst q
    show stp (stp 0 _) _ = stp 0 _
    rw [(stp_one (h0.ok p hp)).1, (stp_one (h0.ok p hp)).2]
   ·rw [Nat.max_eq_left (by omega), Nat.max_eq_left (by omega)]
    rfl
  have start : mr n (fun p => colS c p 1) = mr n (fun p => colS c p (max 0 1)) := rfl
  rw [e1, start]
  refine Ev_st (L := fun k s i => r23_Bounds.l0 k c s i) (n := c.length) (fun i => mr n (fun p => colS c p (max i 1))) (fun i hi hs => ?_) ?_
  ·refine Ev.up ?_
   simp only [r23_Bounds.l0, lt_int hi, ↓reduceIte]
   refine rbounds_row hn hi rfl (hA.get hi).len _ _ (hstep i hi) ?_
   rw [wrap_up hi (by omega : c.length ≤ 9223372036854775807)]
   exact hs
  ·refine Ev.up ?_
   simp only [r23_Bounds.l0, Int.lt_irrefl, ↓reduceIte]
   rw [Nat.max_eq_left (by omega)]
   exact Ev.some _
theorem mbounded_ev {l : List (List Int)} (h : FewS l) : Ev (fun k => mincover_Bounded.f k l) (@ite _ (∃ i, i < (conS [] l).length ∧ (finT ((conS [] l).getD i []) ((conS [] l).getD i []).length).length ≠ ((conS [] l).getD i []).length) (Classical.propDecidable _) false (decide (((conS [] l).length : Int) > 0))) := by
 unfold mincover_Bounded.f
 refine Ev.bind (elements_ev h) ?_
 have hc := h.con
 generalize conS [] l = c at hc ⊢
 have hl := hc.len
 refine Ev_ex (L := fun k i => mincover_Bounded.l0 k c c (c.length : Int) (i : Int)) (n := c.length) (fun i => (finT (c.getD i []) (c.getD i []).length).length ≠ (c.getD i []).length) (a := false) (e := decide ((c.length : Int) > 0)) (fun i hi x => ?_) (fun i hi x s hs => ?_) (fun x => ?_) (fun x => @if_pos _ (Classical.propDecidable _) x _ _ _) (fun x => @if_neg _ (Classical.propDecidable _) (fun ⟨j, hj, y⟩ => x j hj y) _ _ _)
 ·have := finT_len (c.getD i []) (c.getD i []).length
  refine Ev.up ?_
  simp only [mincover_Bounded.l0, lt_int hi, nn, ↓reduceIte, rdL]
  refine Ev.bind (omfinite_ev _ (hc.get hi)) ?_
  simp only [show ((finT (c.getD i []) (c.getD i []).length).length : Int) < ((c.getD i []).length : Int) by omega, ↓reduceIte]
  exact Ev.some _
 ·refine Ev.up ?_
  simp only [mincover_Bounded.l0, lt_int hi, nn, ↓reduceIte, rdL, wrap_up hi (by omega : c.length ≤ 9223372036854775807)]
  refine Ev.bind (omfinite_ev _ (hc.get hi)) ?_
  simp only [show ¬ ((finT (c.getD i []) (c.getD i []).length).length : Int) < ((c.getD i []).length : Int) by omega, ↓reduceIte]
  exact hs
 ·refine Ev.up ?_
  simp only [mincover_Bounded.l0, Int.lt_irrefl, ↓reduceIte]
  exact Ev.some _
theorem bndS_small {l : List (List Int)} (h : FewS l) : (bndS l).length ≤ 17592186043904 := by
 unfold bndS
 split
 ·simp
 ·rw [mr_len]; exact h.get (by omega)
theorem rbounded_ev {l : List (List Int)} (h : FewS l) : Ev (fun k => r23_Bounded.f k l) (if 0 < (conS [] l).length then decide ((finT (bndS (conS [] l)) (bndS (conS [] l)).length).length = (bndS (conS [] l)).length) else false) := by
 unfold r23_Bounded.f
 refine Ev.bind (refcon_ev l h.len h.row) ?_
 refine Ev.bind (rbounds_ev h) ?_
 have hb := bndS_small h.con
 by_cases z : 0 < (conS [] l).length
 ·simp only [show ((conS [] l).length : Int) > 0 by omega, z, ↓reduceIte]
  refine Ev.bind (reffin_ev _ hb) ?_
  generalize bndS (conS [] l) = b
  by_cases c : (finT b b.length).length = b.length
  ·rw [c, decide_eq_true rfl]; simp only [beq_self_eq_true]; exact Ev.some _
  ·rw [decide_eq_false c, show (((finT b b.length).length : Int) == (b.length : Int)) = false from beq_eq_false_iff_ne.mpr (by omega)]
   exact Ev.some _
 ·simp only [show ¬ ((conS [] l).length : Int) > 0 by omega, z, ↓reduceIte]
  exact Ev.some _
theorem bounded_same (l : List (List Int)) : (@ite _ (∃ i, i < (conS [] l).length ∧ (finT ((conS [] l).getD i []) ((conS [] l).getD i []).length).length ≠ ((conS [] l).getD i []).length) (Classical.propDecidable _) false (decide (((conS [] l).length : Int) > 0))) = (if 0 < (conS [] l).length then decide ((finT (bndS (conS [] l)) (bndS (conS [] l)).length).length = (bndS (conS [] l)).length) else false) := by
 obtain ⟨n, hA⟩ := conS_ok l
 generalize conS [] l = c at hA ⊢
 by_cases z : 0 < c.length
 ·rw [if_pos z, decide_eq_true (show (c.length : Int) > 0 by omega)]
  by_cases x : ∃ i, i < c.length ∧ (finT (c.getD i []) (c.getD i []).length).length ≠ (c.getD i []).length
  ·rw [@if_pos _ (Classical.propDecidable _) x, decide_eq_false]
   intro y
   obtain ⟨i, hi, e⟩ := x
   exact e (finT_fin.2 ((bndS_fin hA).1 (finT_fin.1 y) i hi))
  ·rw [@if_neg _ (Classical.propDecidable _) x, decide_eq_true]
   exact finT_fin.2 ((bndS_fin hA).2 (fun i hi => finT_fin.1 (Decidable.byContradiction fun y => x ⟨i, hi, y⟩)))
 ·rw [if_neg z, decide_eq_false (show ¬ (c.length : Int) > 0 by omega)]
  split <;> rfl
end Go.Proofs.Ytaoogghpadifiaa.Pl
namespace Go.Proofs.Ytaoogghpadifiaa.Pure
open Go.RowKit Go.Proofs.Ytaoogghpadifiaa.P Go.Proofs.Ytaoogghpadifiaa.Pl Go.Proofs.YtaoogghpadifiaaW.PrintWords
theorem MincoverLooks (l : List (List Int)) {q : List Int → Prop} {w0 : Prop} (hl : w0 ∧ ∀ x ∈ l, x.length * 8 ≤ 140737488351232 ∧ q x) (m : List Int) {w1 : Prop} (hm : m.length * 8 ≤ 140737488351232 ∧ w1) : ∃ k, petrinetlaw23_MincoverLooks.f k l m = some true := by
 refine Ev.rounds (g := fun k => petrinetlaw23_MincoverLooks.f k l m) ?_
 unfold petrinetlaw23_MincoverLooks.f
 by_cases c : (l.length : Int) > 60
 ·simp only [c, ↓reduceIte]
  exact alive'
 ·have h : FewS l := ⟨by omega, fun x hx => by have := (hl.2 x hx).1; omega⟩
  have hm' : m.length ≤ 17592186043904 := by have := hm.1; omega
  simp only [c, ↓reduceIte]
  refine Ev.bind (mcovers_ev h hm') ?_
  refine Ev.bind (rcovers_ev h hm') ?_
  simp only [beq_self_eq_true, ↓reduceIte]
  refine Ev.bind (mbounds_ev h) ?_
  refine Ev.bind (rbounds_ev h) ?_
  refine Ev.bind (same04_ev _ _ (bndS_small h.con)) ?_
  simp only [decide_true, ↓reduceIte]
  refine Ev.bind (mbounded_ev h) ?_
  refine Ev.bind (rbounded_ev h) ?_
  rw [bounded_same]
  simp only [beq_self_eq_true, ↓reduceIte]
  exact alive'
end Go.Proofs.Ytaoogghpadifiaa.Pure
