/- The plain law of KarpmillerReads: for every list of nodes and every number the law's function answers true, with rounds enough. -/
-- MERGED: the plain texts that it needs, in one
import Derived.Test.YteknagfpiadaiaaPx19
import Derived.Test.YteknagfpiadaiaaPx4
import Derived.Test.YteknagfpiadaiaaVAll
import Derived.Test.YteknagfpiadaiaaPx13
import Derived.Test.YteknagfpiadaiaaPx2
import Derived.Laws.Strings
import Derived.WideShapes
import Derived.Test.YteknagfpiadaiaaPx0
import Derived.Test.YteknagfpiadaiaaPx18
set_option linter.unusedVariables false
set_option linter.unusedSimpArgs false
/- Plain lemmas: loops that count, lists read and written by whole numbers. -/
namespace Go.Proofs.Yteknagfpiadaiaa.Pl
open Go.RowKit Go.Proofs.YteknagfpiadaiaaW.PrintWords Go.Proofs.YteknagfpiadaiaaW.PrintMore

theorem wrap_ok {x : Int} (h0 : -9223372036854775808 ≤ x) (h1 : x ≤ 9223372036854775807) : wrap64 x = x := by unfold wrap64; omega
theorem wrap_up {i n : Nat} (h : i < n) (hn : n ≤ 9223372036854775807) : wrap64 ((i : Int) + 1) = ((i + 1 : Nat) : Int) := by rw [wrap_ok (by omega) (by omega)]; omega

theorem Ev.some {α : Type} (r : α) : Ev (fun _ => Option.some r) r := ⟨0, fun _ _ => rfl⟩
theorem Ev.one {α : Type} {g : Nat → Option α} {r : α} (h : ∀ k, g (k + 1) = Option.some r) : Ev g r := Ev.step h (Ev.some r)




section
variable {α : Type}
theorem rd_nat (xs : List Int) (i : Nat) : rd xs (i : Int) = xs.getD i 0 := by simp [rd]
end
end Go.Proofs.Yteknagfpiadaiaa.Pl
/- Plain lemmas: loops that count through a list, the first place that ends them. -/
namespace Go.Proofs.Yteknagfpiadaiaa.Pl
open Go.RowKit Go.Proofs.YteknagfpiadaiaaW.PrintWords Go.Proofs.YteknagfpiadaiaaW.PrintMore

/-- The first answer of p from place i on, through d places; e if there is none. -/
def firstOr {ρ : Type} (p : Nat → Option ρ) (e : ρ) : Nat → Nat → ρ
 | _, 0 => e
 | i, d + 1 => match p i with | some r => r | none => firstOr p e (i + 1) d
theorem firstOr_cases {ρ : Type} (p : Nat → Option ρ) (e : ρ) : ∀ (d i : Nat), (firstOr p e i d = e ∧ ∀ j, i ≤ j → j < i + d → p j = none) ∨ ∃ j, i ≤ j ∧ j < i + d ∧ p j = some (firstOr p e i d) ∧ ∀ m, i ≤ m → m < j → p m = none
 | 0, i => .inl ⟨rfl, fun j h1 h2 => by omega⟩
 | d + 1, i => by
  unfold firstOr
  cases h : p i with
  | some r => exact .inr ⟨i, Nat.le_refl _, by omega, h, fun m h1 h2 => by omega⟩
  | none =>
   rcases firstOr_cases p e d (i + 1) with ⟨h1, h2⟩ | ⟨j, h1, h2, h3, h4⟩
   ·refine .inl ⟨h1, fun j j1 j2 => ?_⟩
    by_cases hj : j = i
    ·rw [hj]; exact h
    ·exact h2 j (by omega) (by omega)
   ·refine .inr ⟨j, by omega, by omega, h3, fun m m1 m2 => ?_⟩
    by_cases hm : m = i
    ·rw [hm]; exact h
    ·exact h4 m (by omega) m2
/-- The first answer of p below n; e if there is none. -/
def first {ρ : Type} (p : Nat → Option ρ) (e : ρ) (n : Nat) : ρ := firstOr p e 0 n
theorem first_cases {ρ : Type} (p : Nat → Option ρ) (e : ρ) (n : Nat) : (first p e n = e ∧ ∀ j, j < n → p j = none) ∨ ∃ j, j < n ∧ p j = some (first p e n) ∧ ∀ m, m < j → p m = none := by
 rcases firstOr_cases p e n 0 with ⟨h1, h2⟩ | ⟨j, _, h2, h3, h4⟩
 ·exact .inl ⟨h1, fun j h => h2 j (Nat.zero_le _) (by omega)⟩
 ·exact .inr ⟨j, by omega, h3, fun m h => h4 m (Nat.zero_le _) h⟩

/-- A loop that counts up to n and ends where p answers. -/
theorem Ev_firstFrom {ρ : Type} {L : Nat → Nat → Option ρ} {n : Nat} (p : Nat → Option ρ) {e : ρ}
  (go : ∀ i, i < n → p i = none → ∀ r, Ev (fun k => L k (i + 1)) r → Ev (fun k => L k i) r)
  (stop : ∀ i r, i < n → p i = some r → Ev (fun k => L k i) r) (fin : (∀ j, j < n → p j = none) → Ev (fun k => L k n) e) :
  ∀ (d i : Nat), i + d = n → (∀ j, j < i → p j = none) → Ev (fun k => L k i) (firstOr p e i d) := by
 intro d
 induction d with
 | zero =>
  intro i hi hb
  obtain rfl : i = n := by omega
  exact fin hb
 | succ d ih =>
  intro i hi hb
  unfold firstOr
  cases h : p i with
  | some r => exact stop i r (by omega) h
  | none => exact go i (by omega) h _ (ih (i + 1) (by omega) (fun j hj => by
    by_cases e : j = i
    ·rw [e]; exact h
    ·exact hb j (by omega)))
theorem Ev_first' {ρ : Type} {L : Nat → Nat → Option ρ} {n : Nat} (p : Nat → Option ρ) {e : ρ}
  (go : ∀ i, i < n → p i = none → ∀ r, Ev (fun k => L k (i + 1)) r → Ev (fun k => L k i) r)
  (stop : ∀ i r, i < n → p i = some r → Ev (fun k => L k i) r) (fin : (∀ j, j < n → p j = none) → Ev (fun k => L k n) e) : Ev (fun k => L k 0) (first p e n) :=
 Ev_firstFrom p go stop fin n 0 (by omega) (fun j h => by omega)
theorem Ev_first {ρ : Type} {L : Nat → Nat → Option ρ} {n : Nat} (p : Nat → Option ρ) {e : ρ}
  (go : ∀ i, i < n → p i = none → ∀ r, Ev (fun k => L k (i + 1)) r → Ev (fun k => L k i) r)
  (stop : ∀ i r, i < n → p i = some r → Ev (fun k => L k i) r) (fin : Ev (fun k => L k n) e) : Ev (fun k => L k 0) (first p e n) :=
 Ev_first' p go stop (fun _ => fin)
/-- A loop that counts up to n. -/
theorem Ev_up {ρ : Type} {L : Nat → Nat → Option ρ} {n : Nat} {r : ρ}
  (go : ∀ i, i < n → Ev (fun k => L k (i + 1)) r → Ev (fun k => L k i) r) (fin : Ev (fun k => L k n) r) : Ev (fun k => L k 0) r := by
 have h : ∀ d i, i + d = n → Ev (fun k => L k i) r := by
  intro d
  induction d with
  | zero =>
   intro i hi
   obtain rfl : i = n := by omega
   exact fin
  | succ d ih => intro i hi; exact go i (by omega) (ih (i + 1) (by omega))
 exact h n 0 (by omega)

theorem take_map_succ {α β : Type} (l : List α) (f : α → β) (z : α) {i : Nat} (h : i < l.length) : (l.take (i + 1)).map f = (l.take i).map f ++ [f (l.getD i z)] := by
 rw [List.take_succ_eq_append_getElem h, List.map_append, List.getD_eq_getElem?_getD, List.getElem?_eq_getElem h]
 rfl
theorem getD_mem {α : Type} (l : List α) (z : α) {i : Nat} (h : i < l.length) : l.getD i z ∈ l := by
 rw [List.getD_eq_getElem?_getD, List.getElem?_eq_getElem h]
 exact List.getElem_mem h
theorem filter_range_succ (q : Nat → Bool) (i : Nat) : (List.range (i + 1)).filter q = if q i = true then (List.range i).filter q ++ [i] else (List.range i).filter q := by
 rw [List.range_succ, List.filter_append]
 by_cases h : q i = true
 ·rw [if_pos h, List.filter_cons_of_pos h]; rfl
 ·rw [if_neg h, List.filter_cons_of_neg h]; simp
theorem Ev.stepn {α : Type} {g f : Nat → Option α} {r : α} (m : Nat) (h : ∀ k, g (k + m) = f k) (hf : Ev f r) : Ev g r := by
 obtain ⟨K, hK⟩ := hf
 exact ⟨K + m, fun k hk => by obtain ⟨d, rfl⟩ : ∃ d, k = d + m := ⟨k - m, by omega⟩; rw [h]; exact hK d (by omega)⟩
theorem of_ite_none {α : Type} {c : Prop} [Decidable c] {a : α} (h : (if c then none else some a) = none) : c := Classical.byContradiction fun hn => by rw [if_neg hn] at h; cases h
theorem of_ite_some {α : Type} {c : Prop} [Decidable c] {a r : α} (h : (if c then none else some a) = some r) : ¬ c ∧ a = r := by
 by_cases hc : c
 ·rw [if_pos hc] at h; cases h
 ·rw [if_neg hc] at h; exact ⟨hc, Option.some.inj h⟩
/-- What a round answers: an end, or what follows. -/
def stepO {ρ : Type} (a : Option ρ) (b : Option ρ) : Option ρ := match a with | some r => some r | none => b
/-- A loop whose round is one equation. -/
theorem Ev_loop {ρ : Type} {L : Nat → Nat → Option ρ} {n : Nat} (m : Nat) (p : Nat → Option ρ) {e : ρ}
  (step : ∀ k i, i < n → L (k + m) i = stepO (p i) (L k (i + 1))) (fin : Ev (fun k => L k n) e) : Ev (fun k => L k 0) (first p e n) :=
 Ev_first p (fun i hi hp r hr => Ev.stepn m (fun k => by rw [step k i hi, hp]; rfl) hr) (fun i r hi hp => Ev.stepn m (f := fun _ => some r) (fun k => by rw [step k i hi, hp]; rfl) (Ev.some r)) fin
theorem first_any {ρ : Type} (c : Nat → Prop) [DecidablePred c] (a e : ρ) (n : Nat) : first (fun j => if c j then some a else none) e n = if ∃ j, j < n ∧ c j then a else e := by
 rcases first_cases (fun j => if c j then some a else none) e n with ⟨h1, h2⟩ | ⟨j, h1, h2, h3⟩
 ·rw [h1, if_neg]
  rintro ⟨j, hj, hc⟩
  have := h2 j hj
  simp [hc] at this
 ·have hc : c j := by
   refine Classical.byContradiction fun hn => ?_
   simp [hn] at h2
  rw [if_pos ⟨j, h1, hc⟩]
  simp [hc] at h2
  exact h2.symm
end Go.Proofs.Yteknagfpiadaiaa.Pl
/- Plain lemmas: loops that end early, lists told by their places. -/
namespace Go.Proofs.Yteknagfpiadaiaa.Pl
open Go.RowKit Go.Proofs.YteknagfpiadaiaaW.PrintWords Go.Proofs.YteknagfpiadaiaaW.PrintMore

theorem dec_t {p : Prop} {i : Decidable p} (h : p) : @decide p i = true := decide_eq_true h
theorem dec_f {p : Prop} {i : Decidable p} (h : ¬ p) : @decide p i = false := decide_eq_false h
/-- A loop that counts up to n and answers a at the first place with c. -/
theorem Ev_ex {ρ : Type} {L : Nat → Nat → Option ρ} {n : Nat} (c : Nat → Prop) {a e r : ρ}
  (yes : ∀ i, i < n → c i → Ev (fun k => L k i) a)
  (no : ∀ i, i < n → ¬ c i → ∀ r, Ev (fun k => L k (i + 1)) r → Ev (fun k => L k i) r)
  (fin : (∀ j, j < n → ¬ c j) → Ev (fun k => L k n) e) (ha : (∃ j, j < n ∧ c j) → r = a) (he : (∀ j, j < n → ¬ c j) → r = e) : Ev (fun k => L k 0) r := by
 have go : ∀ d i, i + d = n → (∀ j, j < i → ¬ c j) → Ev (fun k => L k i) r := by
  intro d
  induction d with
  | zero =>
   intro i hi hb
   obtain rfl : i = n := by omega
   rw [he hb]
   exact fin hb
  | succ d ih =>
   intro i hi hb
   by_cases h : c i
   ·rw [ha ⟨i, by omega, h⟩]
    exact yes i (by omega) h
   ·exact no i (by omega) h _ (ih (i + 1) (by omega) (fun j hj => by
     by_cases e : j = i
     ·rw [e]; exact h
     ·exact hb j (by omega)))
 exact go n 0 (by omega) (fun j h => by omega)
/-- A loop whose state is told by a function of the place. -/
theorem Ev_st {ρ σ : Type} {L : Nat → σ → Int → Option ρ} {n : Nat} {r : ρ} (s : Nat → σ)
  (go : ∀ i, i < n → Ev (fun k => L k (s (i + 1)) ((i + 1 : Nat) : Int)) r → Ev (fun k => L k (s i) (i : Int)) r) (fin : Ev (fun k => L k (s n) (n : Int)) r) : Ev (fun k => L k (s 0) 0) r :=
 Ev_up (L := fun k i => L k (s i) (i : Int)) (n := n) go fin

/-- A list by its places. -/
abbrev mr {α : Type} (n : Nat) (f : Nat → α) : List α := (List.range n).map f
theorem mr_get {α : Type} {n v : Nat} (f : Nat → α) (d : α) (h : v < n) : (mr n f).getD v d = f v := by
 rw [List.getD_eq_getElem?_getD, List.getElem?_map, List.getElem?_range h]; rfl
theorem mr_len {α : Type} (n : Nat) (f : Nat → α) : (mr n f).length = n := by rw [List.length_map, List.length_range]
end Go.Proofs.Yteknagfpiadaiaa.Pl
/- Rounds laid open one by one. -/
namespace Go.Proofs.Yteknagfpiadaiaa.Pl
open Go.RowKit Go.Proofs.YteknagfpiadaiaaW.PrintWords
theorem Ev.up {α : Type} {g : Nat → Option α} {r : α} (h : Ev (fun k => g (k + 1)) r) : Ev g r := Ev.step (fun _ => rfl) h
theorem nn (i : Nat) : 0 ≤ (i : Int) := Int.natCast_nonneg i
theorem lt_int {i n : Nat} (h : i < n) : (i : Int) < (n : Int) := by omega
end Go.Proofs.Yteknagfpiadaiaa.Pl
/- The check of fixed results of chapter 22; small lists of nodes. -/
namespace Go.Proofs.Yteknagfpiadaiaa.Pure
open Go.RowKit Go.Proofs.Yteknagfpiadaiaa.P Go.Proofs.Yteknagfpiadaiaa.Pl Go.Proofs.YteknagfpiadaiaaW.PrintWords
theorem alive : Ev (fun k => petrinetlaw22_alive.f k) true := Ev.of (fun k => petrinetlaw22_alive.mono k) (k := 60) (by decide +kernel)
theorem alive' : Ev (fun k => (petrinetlaw22_alive.f k).bind fun t => some t) true := Ev.bind alive (Ev.some _)
end Go.Proofs.Yteknagfpiadaiaa.Pure
/- What a net's check answers, told plainly; and that the program's check answers it. -/
namespace Go.Proofs.Yteknagfpiadaiaa.Pl
open Go.RowKit Go.Proofs.Yteknagfpiadaiaa.P Go.Proofs.YteknagfpiadaiaaW.PrintWords Go.Proofs.YteknagfpiadaiaaW.PrintMore

abbrev Pla := S57
abbrev Tra := S60
abbrev Ac := S78
abbrev zP : Pla := z57
abbrev zT : Tra := z60
abbrev zA : Ac := z78

/-! ### arcs -/
def arcE (np : Int) (l : List Ac) (i : Nat) : Option Int :=
 if (l.getD i zA).f0 < 0 ∨ (l.getD i zA).f0 ≥ np then some 7 else if 0 < i ∧ (l.getD (i - 1) zA).f0 ≥ (l.getD i zA).f0 then some 8 else if (l.getD i zA).f1 < 1 ∨ (l.getD i zA).f1 > 99 then some 9 else none
def arcsE (np : Int) (l : List Ac) : Int := first (arcE np l) 0 l.length

/-! ### a transition -/
def transE (np : Int) (t : Tra) : Int := if t.f4 < 0 ∨ t.f4 > 9 then 1 else if arcsE np t.f1 ≠ 0 then arcsE np t.f1 else if arcsE np t.f2 ≠ 0 then arcsE np t.f2 else arcsE np t.f3
def ThinT (t : Tra) : Prop := t.f0.size ≤ 1000000 ∧ t.f1.length ≤ 1000000 ∧ t.f2.length ≤ 1000000 ∧ t.f3.length ≤ 1000000

/-! ### the check -/
def nmE (ns : List ByteArray) (s : ByteArray) : Int := if nameB s = true then (if (ns.any fun o => o.toList == s.toList) = true then 6 else 0) else 5
def plR (ps : List Pla) (i : Nat) : Int := if nmE ((ps.take i).map (·.f0)) (ps.getD i zP).f0 ≠ 0 then nmE ((ps.take i).map (·.f0)) (ps.getD i zP).f0 else placeE (ps.getD i zP).f1 (ps.getD i zP).f2
def trR (ps : List Pla) (ts : List Tra) (i : Nat) : Int := if nmE (ps.map (·.f0) ++ (ts.take i).map (·.f0)) (ts.getD i zT).f0 ≠ 0 then nmE (ps.map (·.f0) ++ (ts.take i).map (·.f0)) (ts.getD i zT).f0 else transE (ps.length : Int) (ts.getD i zT)
/-- What is asked of a net's size for its parts to be told. -/
def Thin (ts : List Tra) : Prop := ∀ t ∈ ts, ThinT t
theorem Thin.at {ts : List Tra} (h : Thin ts) {i : Nat} (hi : i < ts.length) : ThinT (ts.getD i zT) := h _ (getD_mem ts zT hi)
end Go.Proofs.Yteknagfpiadaiaa.Pl
/- What the functions over nets answer, told plainly. -/
namespace Go.Proofs.Yteknagfpiadaiaa.Pl
open Go.RowKit Go.Proofs.Yteknagfpiadaiaa.P Go.Proofs.YteknagfpiadaiaaW.PrintWords Go.Proofs.YteknagfpiadaiaaW.PrintMore

def weightS (l : List Ac) (p : Int) : Int := first (fun i => if (l.getD i zA).f0 = p then some (l.getD i zA).f1 else none) 0 l.length

/-! ### equal nets -/
theorem ext_getD {α : Type} (z : α) {a b : List α} (hl : a.length = b.length) (h : ∀ i, i < a.length → a.getD i z = b.getD i z) : a = b := by
 refine List.ext_getElem hl (fun i h1 h2 => ?_)
 have := h i h1
 rw [List.getD_eq_getElem?_getD, List.getD_eq_getElem?_getD, List.getElem?_eq_getElem h1, List.getElem?_eq_getElem h2] at this
 exact this
end Go.Proofs.Yteknagfpiadaiaa.Pl
/- What a valid net is. -/
namespace Go.Proofs.Yteknagfpiadaiaa.Pl
open Go.RowKit Go.Proofs.Yteknagfpiadaiaa.P Go.Proofs.YteknagfpiadaiaaW.PrintWords Go.Proofs.YteknagfpiadaiaaW.PrintMore

structure ValidN (nm : ByteArray) (ps : List Pla) (ts : List Tra) : Prop where
 n : nameB nm = true
 p0 : 1 ≤ ps.length
 p : ps.length ≤ 24
 t : ts.length ≤ 24
 pl : ∀ i, i < ps.length → plR ps i = 0
 tr : ∀ i, i < ts.length → trR ps ts i = 0
section
variable {nm : ByteArray} {ps : List Pla} {ts : List Tra} (h : ValidN nm ps ts)
include h
theorem ValidN.trName {i : Nat} (hi : i < ts.length) : nmE (ps.map (·.f0) ++ (ts.take i).map (·.f0)) (ts.getD i zT).f0 = 0 ∧ transE (ps.length : Int) (ts.getD i zT) = 0 := by
 have := h.tr i hi
 unfold trR at this
 by_cases c : nmE (ps.map (·.f0) ++ (ts.take i).map (·.f0)) (ts.getD i zT).f0 = 0
 ·rw [if_neg (by simpa using c)] at this; exact ⟨c, this⟩
 ·rw [if_pos c] at this; exact absurd this c
theorem ValidN.arcs {i : Nat} (hi : i < ts.length) : (0 ≤ (ts.getD i zT).f4 ∧ (ts.getD i zT).f4 ≤ 9) ∧ arcsE (ps.length : Int) (ts.getD i zT).f1 = 0 ∧ arcsE (ps.length : Int) (ts.getD i zT).f2 = 0 ∧ arcsE (ps.length : Int) (ts.getD i zT).f3 = 0 := by
 have := (h.trName hi).2
 unfold transE at this
 by_cases c : (ts.getD i zT).f4 < 0 ∨ (ts.getD i zT).f4 > 9
 ·rw [if_pos c] at this; exact absurd this (by decide)
 ·rw [if_neg c] at this
  by_cases c1 : arcsE (ps.length : Int) (ts.getD i zT).f1 = 0
  ·rw [if_neg (by simpa using c1)] at this
   by_cases c2 : arcsE (ps.length : Int) (ts.getD i zT).f2 = 0
   ·rw [if_neg (by simpa using c2)] at this; exact ⟨by omega, c1, c2, this⟩
   ·rw [if_pos c2] at this; exact absurd this c2
  ·rw [if_pos c1] at this; exact absurd this c1
end
theorem arcE_none {np : Int} {l : List Ac} {i : Nat} (h : arcE np l i = none) : 0 ≤ (l.getD i zA).f0 ∧ (l.getD i zA).f0 < np ∧ (0 < i → (l.getD (i - 1) zA).f0 < (l.getD i zA).f0) ∧ 1 ≤ (l.getD i zA).f1 ∧ (l.getD i zA).f1 ≤ 99 := by
 unfold arcE at h
 by_cases c1 : (l.getD i zA).f0 < 0 ∨ (l.getD i zA).f0 ≥ np
 ·rw [if_pos c1] at h; cases h
 ·rw [if_neg c1] at h
  by_cases c2 : 0 < i ∧ (l.getD (i - 1) zA).f0 ≥ (l.getD i zA).f0
  ·rw [if_pos c2] at h; cases h
  ·rw [if_neg c2] at h
   by_cases c3 : (l.getD i zA).f1 < 1 ∨ (l.getD i zA).f1 > 99
   ·rw [if_pos c3] at h; cases h
   ·exact ⟨by omega, by omega, fun hi => Int.not_le.1 fun hc => c2 ⟨hi, hc⟩, by omega, by omega⟩
theorem arcE_some {np : Int} {l : List Ac} {i : Nat} {r : Int} (h : arcE np l i = some r) : r ≠ 0 := by
 unfold arcE at h
 by_cases c1 : (l.getD i zA).f0 < 0 ∨ (l.getD i zA).f0 ≥ np
 ·rw [if_pos c1] at h; cases h; decide
 ·rw [if_neg c1] at h
  by_cases c2 : 0 < i ∧ (l.getD (i - 1) zA).f0 ≥ (l.getD i zA).f0
  ·rw [if_pos c2] at h; cases h; decide
  ·rw [if_neg c2] at h
   by_cases c3 : (l.getD i zA).f1 < 1 ∨ (l.getD i zA).f1 > 99
   ·rw [if_pos c3] at h; cases h; decide
   ·rw [if_neg c3] at h; cases h
theorem arcsE_zero {np : Int} {l : List Ac} (h : arcsE np l = 0) : ∀ i, i < l.length → 0 ≤ (l.getD i zA).f0 ∧ (l.getD i zA).f0 < np ∧ (0 < i → (l.getD (i - 1) zA).f0 < (l.getD i zA).f0) ∧ 1 ≤ (l.getD i zA).f1 ∧ (l.getD i zA).f1 ≤ 99 := by
 intro i hi
 unfold arcsE at h
 rcases first_cases (arcE np l) 0 l.length with ⟨_, h2⟩ | ⟨j, _, h2, _⟩
 ·exact arcE_none (h2 i hi)
 ·rw [h] at h2
  exact absurd rfl (arcE_some h2)
theorem weight_nn {np : Int} {l : List Ac} (h : arcsE np l = 0) (p : Int) : 0 ≤ weightS l p ∧ weightS l p ≤ 99 := by
 unfold weightS
 rcases first_cases (fun i => if (l.getD i zA).f0 = p then some (l.getD i zA).f1 else none) 0 l.length with ⟨h1, h2⟩ | ⟨j, h1, h2, _⟩
 ·rw [h1]; decide
 ·by_cases c : (l.getD j zA).f0 = p
  ·simp only [c, if_true] at h2
   have := arcsE_zero h j h1
   rw [← Option.some.inj h2]; omega
  ·simp only [c, if_false] at h2; cases h2
end Go.Proofs.Yteknagfpiadaiaa.Pl
/- Extended markings and firing, told plainly. -/
namespace Go.Proofs.Yteknagfpiadaiaa.Pl
open Go.RowKit Go.Proofs.Yteknagfpiadaiaa.P Go.Proofs.YteknagfpiadaiaaW.PrintWords Go.Proofs.YteknagfpiadaiaaW.PrintMore

/-! ### numbers of an extended marking: -1 stands for arbitrarily many -/
def okN (k : Int) : Bool := if k = -1 then true else if k < 0 ∨ k > 1048576 then false else true
theorem okN_iff {k : Int} : okN k = true ↔ k = -1 ∨ (0 ≤ k ∧ k ≤ 1048576) := by
 unfold okN
 by_cases h : k = -1
 ·rw [if_pos h]; exact ⟨fun _ => Or.inl h, fun _ => rfl⟩
 ·rw [if_neg h]
  by_cases c : k < 0 ∨ k > 1048576
  ·rw [if_pos c]; exact ⟨fun h => (by cases h), fun h2 => by omega⟩
  ·rw [if_neg c]; exact ⟨fun _ => by omega, fun _ => rfl⟩
def moreS (a b : Int) : Bool := if a = -1 ∨ b = -1 then decide (a = -1 ∧ b ≠ -1) else decide (a > b)
theorem moreS_self (a : Int) : moreS a a = false := by
 unfold moreS
 by_cases h : a = -1
 ·rw [if_pos (Or.inl h)]; exact dec_f (fun h2 => h2.2 h)
 ·rw [if_neg (by omega)]; exact dec_f (by omega)
/-- a is at most b. -/
def le1 (a b : Int) : Prop := b = -1 ∨ (a ≠ -1 ∧ b ≠ -1 ∧ a ≤ b)
theorem moreS_iff {a b : Int} : moreS a b = false ↔ le1 a b := by
 unfold moreS le1
 by_cases h : a = -1 ∨ b = -1
 ·rw [if_pos h]
  by_cases c : a = -1 ∧ b ≠ -1
  ·rw [dec_t c]; exact ⟨fun h => (by cases h), fun h2 => by omega⟩
  ·rw [dec_f c]; exact ⟨fun _ => by omega, fun _ => rfl⟩
 ·rw [if_neg h]
  by_cases c : a > b
  ·rw [dec_t c]; exact ⟨fun h => (by cases h), fun h2 => by omega⟩
  ·rw [dec_f c]; exact ⟨fun _ => by omega, fun _ => rfl⟩

/-! ### extended markings -/
/-- m is an extended marking of n places. -/
structure Om (n : Nat) (m : List Int) : Prop where
 len : m.length = n
 ok : ∀ i, i < n → okN (m.getD i 0) = true
theorem Om.cases {n : Nat} {m : List Int} (h : Om n m) {i : Nat} (hi : i < n) : m.getD i 0 = -1 ∨ (0 ≤ m.getD i 0 ∧ m.getD i 0 ≤ 1048576) := okN_iff.1 (h.ok i hi)
def omS (m : List Int) (n : Int) : Bool := if (m.length : Int) = n then first (fun i => if okN (m.getD i 0) = true then none else some false) true m.length else false
/-- No element of a is greater than that of b. -/
def Le (a b : List Int) : Prop := ∀ i, i < a.length → le1 (a.getD i 0) (b.getD i 0)
def leqS (a b : List Int) : Bool := if omS a (b.length : Int) = true then if omS b (b.length : Int) = true then first (fun i => if moreS (a.getD i 0) (b.getD i 0) = true then some false else none) true a.length else false else false
/-- high, with -1 where it is greater than low. -/
def accS (low high : List Int) : List Int := if leqS low high = true then mr high.length (fun i => if moreS (high.getD i 0) (low.getD i 0) = true then -1 else high.getD i 0) else high
theorem accS_len (low high : List Int) : (accS low high).length = high.length := by
 unfold accS
 by_cases h : leqS low high = true
 ·rw [if_pos h, mr_len]
 ·rw [if_neg h]
theorem accS_get (low high : List Int) {i : Nat} (hi : i < high.length) : (accS low high).getD i 0 = if leqS low high = true ∧ moreS (high.getD i 0) (low.getD i 0) = true then -1 else high.getD i 0 := by
 unfold accS
 by_cases h : leqS low high = true
 ·rw [if_pos h, mr_get _ _ hi]
  by_cases c : moreS (high.getD i 0) (low.getD i 0) = true
  ·rw [if_pos c, if_pos ⟨h, c⟩]
  ·rw [if_neg c, if_neg (fun x => c x.2)]
 ·rw [if_neg h, if_neg (fun x => h x.1)]
theorem accS_or (low high : List Int) {i : Nat} (hi : i < high.length) : (accS low high).getD i 0 = -1 ∨ (accS low high).getD i 0 = high.getD i 0 := by
 rw [accS_get low high hi]
 by_cases c : leqS low high = true ∧ moreS (high.getD i 0) (low.getD i 0) = true
 ·rw [if_pos c]; exact Or.inl rfl
 ·rw [if_neg c]; exact Or.inr rfl
theorem le1_refl (a : Int) : le1 a a := moreS_iff.1 (moreS_self a)
theorem le1_trans {a b c : Int} (h : le1 a b) (k : le1 b c) : le1 a c := by unfold le1 at *; omega
theorem Le.refl (a : List Int) : Le a a := fun _ _ => le1_refl _
theorem Le.trans {a b c : List Int} (h : Le a b) (k : Le b c) (hl : a.length = b.length) : Le a c := fun i hi => le1_trans (h i hi) (k i (by omega))
theorem accS_ge (low high : List Int) : Le high (accS low high) := fun i hi => by
 rcases accS_or low high hi with e | e
 ·rw [e]; exact Or.inl rfl
 ·rw [e]; exact le1_refl _
/-- The marking has no -1. -/
def Fin (m : List Int) : Prop := ∀ i, i < m.length → m.getD i 0 ≠ -1
theorem ext0 {a b : List Int} (hl : a.length = b.length) (h : ∀ i, i < a.length → a.getD i 0 = b.getD i 0) : a = b := ext_getD 0 hl h
/-- What is not changed, or bears -1 since low is at most high and somewhere less. -/
theorem accS_cases (low high : List Int) : accS low high = high ∨ (¬ Fin (accS low high) ∧ leqS low high = true ∧ ∃ i, i < high.length ∧ moreS (high.getD i 0) (low.getD i 0) = true) := by
 by_cases h : leqS low high = true
 ·by_cases c : ∃ i, i < high.length ∧ moreS (high.getD i 0) (low.getD i 0) = true
  ·obtain ⟨i, hi, hc⟩ := c
   refine Or.inr ⟨fun hf => hf i (by rw [accS_len]; exact hi) ?_, h, i, hi, hc⟩
   rw [accS_get low high hi, if_pos ⟨h, hc⟩]
  ·refine Or.inl (ext0 (accS_len _ _) (fun i hi => ?_))
   rw [accS_len] at hi
   rw [accS_get low high hi, if_neg (fun x => c ⟨i, hi, x.2⟩)]
 ·left; unfold accS; rw [if_neg h]

/-! ### firing -/
/-- A transition has its tokens. -/
def Can (t : Tra) (m : List Int) : Prop := ∀ p, p < m.length → m.getD p 0 = -1 ∨ weightS t.f1 (p : Int) ≤ m.getD p 0
def movS (t : Tra) (m : List Int) : List Int := mr m.length (fun p => if m.getD p 0 = -1 then -1 else m.getD p 0 - weightS t.f1 (p : Int) + weightS t.f2 (p : Int))
theorem movS_len (t : Tra) (m : List Int) : (movS t m).length = m.length := mr_len _ _
theorem movS_get (t : Tra) (m : List Int) {p : Nat} (hp : p < m.length) : (movS t m).getD p 0 = if m.getD p 0 = -1 then -1 else m.getD p 0 - weightS t.f1 (p : Int) + weightS t.f2 (p : Int) := mr_get _ _ hp
/-- No place has too many. -/
def Fits (m : List Int) : Prop := ∀ p, p < m.length → m.getD p 0 ≤ 1048576
/-- Firing grows with the marking. -/
theorem Can.mono {t : Tra} {a b : List Int} (h : Can t a) (hl : a.length = b.length) (ha : Fin a) (k : Le a b) : Can t b := fun p hp => by
 have h1 := h p (by omega)
 have h2 := k p (by omega)
 have h3 := ha p (by omega)
 unfold le1 at h2
 omega
theorem movS_mono {t : Tra} {a b : List Int} (hl : a.length = b.length) (hc : Can t a) {n1 : Int} (h1 : arcsE n1 t.f1 = 0) (h2 : arcsE n1 t.f2 = 0) (k : Le a b) : Le (movS t a) (movS t b) := fun p hp => by
 rw [movS_len] at hp
 rw [movS_get t a hp, movS_get t b (by omega)]
 have h := k p hp
 have c := hc p hp
 have w1 := weight_nn h1 (p : Int)
 have w2 := weight_nn h2 (p : Int)
 unfold le1 at h ⊢
 by_cases ea : a.getD p 0 = -1
 ·rw [if_pos ea]
  by_cases eb : b.getD p 0 = -1
  ·rw [if_pos eb]; exact Or.inl rfl
  ·omega
 ·rw [if_neg ea]
  by_cases eb : b.getD p 0 = -1
  ·rw [if_pos eb]; exact Or.inl rfl
  ·rw [if_neg eb]; right; omega
end Go.Proofs.Yteknagfpiadaiaa.Pl
/- Reading a list of lists; appending to a list. -/
namespace Go.Proofs.Yteknagfpiadaiaa.Pl
open Go.RowKit Go.Proofs.Yteknagfpiadaiaa.P Go.Proofs.YteknagfpiadaiaaW.PrintWords Go.Proofs.YteknagfpiadaiaaW.PrintMore
end Go.Proofs.Yteknagfpiadaiaa.Pl
/- Coverability trees, told plainly. -/
namespace Go.Proofs.Yteknagfpiadaiaa.Pl
set_option linter.unusedVariables false
open Go.RowKit Go.Proofs.Yteknagfpiadaiaa.P Go.Proofs.YteknagfpiadaiaaW.PrintWords Go.Proofs.YteknagfpiadaiaaW.PrintMore

abbrev Nd := S48
abbrev zN : Nd := z48
theorem rdN (xs : List Nd) (i : Nat) : rd_T48 xs (i : Int) = xs.getD i zN := by simp [rd_T48]
/-- A marking, with -1 where it exceeds that of an ancestor: node i, its parent, and so on. -/
def ancS (tr : List Nd) : Nat → Int → List Int → List Int
 | 0, _, m => m
 | f + 1, i, m => if i < 0 then m else ancS tr f (tr.getD i.toNat zN).f0 (accS (tr.getD i.toNat zN).f2 m)
theorem ancS_len (tr : List Nd) : ∀ (f : Nat) (i : Int) (m : List Int), (ancS tr f i m).length = m.length
 | 0, _, _ => rfl
 | f + 1, i, m => by
  unfold ancS
  by_cases c : i < 0
  ·rw [if_pos c]
  ·rw [if_neg c, ancS_len tr f, accS_len]
theorem ancS_ge (tr : List Nd) : ∀ (f : Nat) (i : Int) (m : List Int), Le m (ancS tr f i m)
 | 0, _, _ => Le.refl _
 | f + 1, i, m => by
  unfold ancS
  by_cases c : i < 0
  ·rw [if_pos c]; exact Le.refl _
  ·rw [if_neg c]; exact (accS_ge _ _).trans (ancS_ge tr f _ _) (accS_len _ _).symm
/-- What is at least a marking that has -1 has -1. -/
theorem not_fin {a b : List Int} (h : ¬ Fin a) (hl : a.length = b.length) (k : Le a b) : ¬ Fin b := fun hb => h fun i hi e => by
 have h1 := k i hi
 have h2 := hb i (by omega)
 unfold le1 at h1
 omega
/-- a is i, its parent, or so on. -/
inductive Up (tr : List Nd) : Nat → Nat → Prop
 | refl (i : Nat) : Up tr i i
 | step {i j a : Nat} (h : (tr.getD i zN).f0 = (j : Int)) (k : Up tr j a) : Up tr i a
theorem ancS_cases (tr : List Nd) : ∀ (f : Nat) (i : Int) (m : List Int), ancS tr f i m = m ∨ (¬ Fin (ancS tr f i m) ∧ 0 ≤ i ∧ ∃ a, Up tr i.toNat a ∧ leqS (tr.getD a zN).f2 m = true ∧ ∃ p, p < m.length ∧ moreS (m.getD p 0) ((tr.getD a zN).f2.getD p 0) = true)
 | 0, _, _ => Or.inl rfl
 | f + 1, i, m => by
  unfold ancS
  by_cases c : i < 0
  ·rw [if_pos c]; exact Or.inl rfl
  ·rw [if_neg c]
   rcases accS_cases (tr.getD i.toNat zN).f2 m with e | ⟨h1, h2, h3⟩
   ·rw [e]
    rcases ancS_cases tr f (tr.getD i.toNat zN).f0 m with e2 | ⟨h1, h0, a, h2, h3⟩
    ·exact Or.inl e2
    ·exact Or.inr ⟨h1, by omega, a, Up.step (by omega) h2, h3⟩
   ·exact Or.inr ⟨not_fin h1 (ancS_len _ _ _ _).symm (ancS_ge _ _ _ _), by omega, i.toNat, Up.refl _, h2, h3⟩

/-! ### the tree of a net -/
structure TreeOk (ts : List Tra) (n : Nat) (m0 : List Int) (tr : List Nd) : Prop where
 ne : 0 < tr.length
 root : tr.getD 0 zN = ⟨-1, -1, m0, false⟩
 om : ∀ i, i < tr.length → Om n (tr.getD i zN).f2
 up : ∀ i, 0 < i → i < tr.length → ∃ j t : Nat, j < i ∧ (tr.getD i zN).f0 = (j : Int) ∧ (tr.getD i zN).f1 = (t : Int) ∧ t < ts.length ∧ Can (ts.getD t zT) (tr.getD j zN).f2 ∧ Fits (movS (ts.getD t zT) (tr.getD j zN).f2) ∧ (tr.getD i zN).f2 = ancS tr (j + 1) (j : Int) (movS (ts.getD t zT) (tr.getD j zN).f2)
 again : ∀ i, i < tr.length → ((tr.getD i zN).f3 = true ↔ ∃ j, j < i ∧ (tr.getD j zN).f2 = (tr.getD i zN).f2)
/-- Node i has its children: one for each transition that has its tokens. -/
def Kids (ts : List Tra) (tr : List Nd) (i : Nat) : Prop := (tr.getD i zN).f3 = false → ∀ t, t < ts.length → Can (ts.getD t zT) (tr.getD i zN).f2 → Fits (movS (ts.getD t zT) (tr.getD i zN).f2) ∧ ∃ j, i < j ∧ j < tr.length ∧ (tr.getD j zN).f0 = (i : Int) ∧ (tr.getD j zN).f1 = (t : Int)
variable {ts : List Tra} {n : Nat} {m0 : List Int} {tr : List Nd}
theorem TreeOk.one (h : Om n m0) : TreeOk ts n m0 [⟨-1, -1, m0, false⟩] := by
 refine ⟨by simp, rfl, fun i hi => ?_, fun i h0 hi => ?_, fun i hi => ?_⟩
 ·obtain rfl : i = 0 := by simp at hi; exact hi
  exact h
 ·simp at hi; omega
 ·obtain rfl : i = 0 := by simp at hi; exact hi
  exact ⟨fun h => by simp at h, fun ⟨j, hj, _⟩ => by omega⟩
/-- The first node with the marking of a node. -/
theorem TreeOk.firstOf (h : TreeOk ts n m0 tr) : ∀ (i : Nat), i < tr.length → ∃ j, j ≤ i ∧ (tr.getD j zN).f2 = (tr.getD i zN).f2 ∧ (tr.getD j zN).f3 = false := by
 intro i
 induction i using Nat.strongRecOn with
 | _ i ih =>
  intro hi
  cases e : (tr.getD i zN).f3 with
  | false => exact ⟨i, Nat.le_refl _, rfl, e⟩
  | true =>
   obtain ⟨j, h1, h2⟩ := (h.again i hi).1 e
   obtain ⟨x, h3, h4, h5⟩ := ih j h1 (by omega)
   exact ⟨x, by omega, by rw [h4, h2], h5⟩
/-- A net's arcs are well formed. -/
def Arcs (np : Int) (ts : List Tra) : Prop := ∀ t, t < ts.length → arcsE np (ts.getD t zT).f1 = 0 ∧ arcsE np (ts.getD t zT).f2 = 0

/-! ### what a complete tree covers -/
def Cov (tr : List Nd) (m : List Int) : Prop := ∃ i, i < tr.length ∧ Le m (tr.getD i zN).f2
theorem Cov.step {np : Int} (h : TreeOk ts n m0 tr) (ha : Arcs np ts) (hk : ∀ i, i < tr.length → Kids ts tr i) {m : List Int} (hm : m.length = n) (hf : Fin m) (h0 : Cov tr m) {t : Nat} (ht : t < ts.length) (hc : Can (ts.getD t zT) m) : Cov tr (movS (ts.getD t zT) m) := by
 obtain ⟨i, hi, hle⟩ := h0
 obtain ⟨j, h1, h2, h3⟩ := h.firstOf i hi
 rw [← h2] at hle
 have ho := h.om j (by omega)
 have hl : m.length = (tr.getD j zN).f2.length := by rw [hm, ho.len]
 have hc2 := hc.mono hl hf hle
 obtain ⟨_, c, h4, h5, h6, h7⟩ := hk j (by omega) h3 t ht hc2
 obtain ⟨j', t', k1, k2, k3, k4, k5, k6, k7⟩ := h.up c (by omega) h5
 obtain rfl : j' = j := by omega
 obtain rfl : t' = t := by omega
 refine ⟨c, h5, ?_⟩
 rw [k7]
 exact (movS_mono hl hc (ha t' ht).1 (ha t' ht).2 hle).trans (ancS_ge _ _ _ _) (by rw [movS_len, movS_len]; exact hl)

/-! ### trees without -1, and with it -/
/-- The markings of a list are closed: all that fires fits and is there again. -/
structure Closed (ts : List Tra) (n : Nat) (m0 : List Int) (l : List (List Int)) : Prop where
 first : m0 ∈ l
 om : ∀ m ∈ l, Om n m ∧ Fin m
 next : ∀ m ∈ l, ∀ t, t < ts.length → Can (ts.getD t zT) m → movS (ts.getD t zT) m ∈ l
theorem movS_fin {np : Int} {t : Tra} (h2 : arcsE np t.f2 = 0) {m : List Int} (hf : Fin m) (hc : Can t m) : Fin (movS t m) := fun i hi => by
 rw [movS_len] at hi
 rw [movS_get t m hi, if_neg (hf i hi)]
 have := weight_nn h2 (i : Int)
 rcases hc i hi with e | e
 ·exact absurd e (hf i hi)
 ·omega
/-- A node without -1 bears what firing gives. -/
theorem TreeOk.exact (h : TreeOk ts n m0 tr) {i j t : Nat} (hf : Fin (tr.getD i zN).f2) (he : (tr.getD i zN).f2 = ancS tr (j + 1) (j : Int) (movS (ts.getD t zT) (tr.getD j zN).f2)) : (tr.getD i zN).f2 = movS (ts.getD t zT) (tr.getD j zN).f2 := by
 rcases ancS_cases tr (j + 1) (j : Int) (movS (ts.getD t zT) (tr.getD j zN).f2) with e | ⟨e, _⟩
 ·rw [he, e]
 ·exact absurd (by rw [← he]; exact hf) e
theorem mem_markings {tr : List Nd} {m : List Int} : m ∈ tr.map (·.f2) ↔ ∃ i, i < tr.length ∧ (tr.getD i zN).f2 = m := by
 constructor
 ·intro h
  obtain ⟨x, hx, rfl⟩ := List.mem_map.1 h
  obtain ⟨i, hi, rfl⟩ := List.getElem_of_mem hx
  exact ⟨i, hi, by rw [List.getD_eq_getElem?_getD, List.getElem?_eq_getElem hi]; rfl⟩
 ·rintro ⟨i, hi, rfl⟩
  exact List.mem_map.2 ⟨_, getD_mem tr zN hi, rfl⟩
/-- The markings of a complete tree without -1 are closed. -/
theorem TreeOk.closed (h : TreeOk ts n m0 tr) (hk : ∀ i, i < tr.length → Kids ts tr i) (hf : ∀ i, i < tr.length → Fin (tr.getD i zN).f2) : Closed ts n m0 (tr.map (·.f2)) := by
 refine ⟨mem_markings.2 ⟨0, h.ne, by rw [h.root]⟩, fun m hm => ?_, fun m hm t ht hc => ?_⟩
 ·obtain ⟨i, hi, rfl⟩ := mem_markings.1 hm
  exact ⟨h.om i hi, hf i hi⟩
 ·obtain ⟨i, hi, rfl⟩ := mem_markings.1 hm
  obtain ⟨j, h1, h2, h3⟩ := h.firstOf i hi
  rw [← h2] at hc ⊢
  obtain ⟨_, c, h4, h5, h6, h7⟩ := hk j (by omega) h3 t ht hc
  obtain ⟨j', t', k1, k2, k3, k4, k5, k6, k7⟩ := h.up c (by omega) h5
  obtain rfl : j' = j := by omega
  obtain rfl : t' = t := by omega
  exact mem_markings.2 ⟨c, h5, h.exact (hf c h5) k7⟩
/-- Firing without -1, step by step. -/
inductive Run (ts : List Tra) (a : List Int) : List Int → Prop
 | refl : Run ts a a
 | step {b : List Int} {t : Nat} (h : Run ts a b) (ht : t < ts.length) (hc : Can (ts.getD t zT) b) : Run ts a (movS (ts.getD t zT) b)
theorem Run.trans {a b c : List Int} (h : Run ts a b) (k : Run ts b c) : Run ts a c := by
 induction k with
 | refl => exact h
 | step _ ht hc ih => exact ih.step ht hc
theorem Run.len {a b : List Int} (h : Run ts a b) : b.length = a.length := by
 induction h with
 | refl => rfl
 | step _ _ _ ih => rw [movS_len, ih]
/-- A run from a greater marking is longer by the same. -/
theorem Run.shift {np : Int} (ha : Arcs np ts) {l : List (List Int)} (hl : Closed ts n m0 l) {a b a' : List Int} (h : Run ts a b) (hfa : Fin a) (hn : a.length = n) (ha' : a' ∈ l) (hle : ∀ i, i < n → a.getD i 0 ≤ a'.getD i 0) :
  Fin b ∧ ∃ b', b' ∈ l ∧ ∀ i, i < n → b'.getD i 0 = b.getD i 0 + (a'.getD i 0 - a.getD i 0) := by
 induction h with
 | refl => exact ⟨hfa, a', ha', fun i hi => by omega⟩
 | @step b t hr ht hc ih =>
  obtain ⟨fb, b', hb', e⟩ := ih
  have lb : b.length = n := by rw [hr.len, hn]
  obtain ⟨ob, fb'⟩ := hl.om b' hb'
  have hc' : Can (ts.getD t zT) b' := fun p hp => by
   have hp' : p < n := by rw [← ob.len]; exact hp
   have h1 := hc p (by omega)
   have h2 := fb p (by omega)
   have h3 := e p hp'
   have h4 := hle p hp'
   omega
  refine ⟨movS_fin (ha t ht).2 fb hc, _, hl.next b' hb' t ht hc', fun i hi => ?_⟩
  have hi1 : i < b'.length := by rw [ob.len]; exact hi
  have hi2 : i < b.length := by omega
  have h3 := e i hi
  rw [movS_get _ _ hi1, movS_get _ _ hi2, if_neg (fb i hi2), if_neg (fb' i hi1)]
  omega
/-- A run that ends above its begin can go on for ever. -/
theorem Run.grows {np : Int} (ha : Arcs np ts) {l : List (List Int)} (hl : Closed ts n m0 l) {a b : List Int} (h : Run ts a b) (hia : a ∈ l) (hle : ∀ i, i < n → a.getD i 0 ≤ b.getD i 0) {p : Nat} (hp : p < n) (hlt : a.getD p 0 < b.getD p 0) : False := by
 have go : ∀ k : Nat, ∃ x, x ∈ l ∧ ∀ i, i < n → a.getD i 0 ≤ x.getD i 0 ∧ (i = p → a.getD i 0 + (k : Int) ≤ x.getD i 0) := by
  intro k
  induction k with
  | zero => exact ⟨a, hia, fun i hi => ⟨Int.le_refl _, fun _ => by omega⟩⟩
  | succ k ih =>
   obtain ⟨x, hx, e⟩ := ih
   obtain ⟨_, y, hy, ey⟩ := h.shift ha hl (hl.om a hia).2 (hl.om a hia).1.len hx (fun i hi => (e i hi).1)
   refine ⟨y, hy, fun i hi => ?_⟩
   have h1 := ey i hi
   have h2 := e i hi
   have h3 := hle i hi
   refine ⟨by omega, fun c => ?_⟩
   subst c
   have := h2.2 rfl
   omega
 obtain ⟨x, hx, e⟩ := go 1048578
 have h1 := (e p hp).2 rfl
 have h2 := (hl.om x hx).1.cases hp
 have h3 := (hl.om a hia).1.cases hp
 omega
/-- The nodes above a node without -1 in the first part of a tree lead to it. -/
theorem TreeOk.run (h : TreeOk ts n m0 tr) {b : Nat} (hb : b ≤ tr.length) (hf : ∀ i, i < b → Fin (tr.getD i zN).f2) {i a : Nat} (hu : Up tr i a) : i < b → Run ts (tr.getD a zN).f2 (tr.getD i zN).f2 ∧ a < b := by
 induction hu with
 | refl i => exact fun hi => ⟨Run.refl, hi⟩
 | @step i j a he _ ih =>
  intro hi
  have h0 : 0 < i := by
   by_cases c : 0 < i
   ·exact c
   ·obtain rfl : i = 0 := by omega
    rw [h.root] at he
    simp only at he
    omega
  obtain ⟨j', t, h1, h2, h3, h4, h5, h6, h7⟩ := h.up i h0 (by omega)
  obtain rfl : j' = j := by omega
  obtain ⟨k1, k2⟩ := ih (by omega)
  refine ⟨?_, k2⟩
  rw [h.exact (hf i hi) h7]
  exact k1.step h4 h5
end Go.Proofs.Yteknagfpiadaiaa.Pl
/- Small lists of nodes, as chapter 22 tells them. -/
namespace Go.Proofs.Yteknagfpiadaiaa.Pl
set_option linter.unusedVariables false
set_option linter.unusedSimpArgs false
open Go.RowKit Go.Proofs.Yteknagfpiadaiaa.P Go.Proofs.YteknagfpiadaiaaW.PrintWords Go.Proofs.YteknagfpiadaiaaW.PrintMore
structure FewN (tr : List Nd) : Prop where
 len : tr.length ≤ 320
 row : ∀ i, i < tr.length → (tr.getD i zN).f2.length ≤ 30
theorem few22_go (tr : List Nd) : ∀ (d i : Nat), 321 - i = d → i ≤ tr.length → i ≤ 321 → (∀ u, u < i → (tr.getD u zN).f2.length ≤ 30) → ∃ b, Ev (fun k => petrinetlaw22_few.l0 k tr (i : Int)) b ∧ (b = true → FewN tr) := by
 intro d
 induction d with
 | zero =>
  intro i hd hi hi2 hr
  have e : i = 321 := by omega
  subst e
  refine ⟨false, ?_, fun h => by cases h⟩
  refine Ev.up (Ev.up ?_)
  simp only [petrinetlaw22_few.l0]
  by_cases c : ((321 : Nat) : Int) < (tr.length : Int)
  ·simp only [c, ↓reduceIte, show ¬ (((321 : Nat) : Int) < 321) by omega, decide_false, petrinetlaw22_few.j1, Bool.false_eq_true]
   rw [decide_eq_false (show ¬ ((tr.length : Int) ≤ 320) by omega)]
   exact Ev.some _
  ·simp only [c, ↓reduceIte, petrinetlaw22_few.j1, Bool.false_eq_true]
   rw [decide_eq_false (show ¬ ((tr.length : Int) ≤ 320) by omega)]
   exact Ev.some _
 | succ d ih =>
  intro i hd hi hi2 hr
  by_cases h : i < tr.length
  ·by_cases h30 : ((tr.getD i zN).f2.length : Int) > 30
   ·refine ⟨false, ?_, fun h => by cases h⟩
    refine Ev.up (Ev.up ?_)
    simp only [petrinetlaw22_few.l0, lt_int h, ↓reduceIte, show (i : Int) < 321 by omega, decide_true, petrinetlaw22_few.j1, nn, rdN, h30]
    exact Ev.some _
   ·obtain ⟨b, hb, hb2⟩ := ih (i + 1) (by omega) (by omega) (by omega) (fun u hu => by
     by_cases e : u = i
     ·subst e; omega
     ·exact hr u (by omega))
    refine ⟨b, Ev.up (Ev.up ?_), hb2⟩
    simp only [petrinetlaw22_few.l0, lt_int h, ↓reduceIte, show (i : Int) < 321 by omega, decide_true, petrinetlaw22_few.j1, nn, rdN, h30, wrap_up (show i < 321 by omega) (by omega)]
    exact hb
  ·refine ⟨decide ((tr.length : Int) ≤ 320), ?_, fun h2 => ⟨by have := of_decide_eq_true h2; omega, fun u hu => hr u (by omega)⟩⟩
   refine Ev.up (Ev.up ?_)
   simp only [petrinetlaw22_few.l0, show ¬ ((i : Int) < (tr.length : Int)) by omega, ↓reduceIte, petrinetlaw22_few.j1, Bool.false_eq_true]
   exact Ev.some _
theorem few22_ev (tr : List Nd) : ∃ b, Ev (fun k => petrinetlaw22_few.f k tr) b ∧ (b = true → FewN tr) :=
 few22_go tr 321 0 rfl (Nat.zero_le _) (by omega) (fun u hu => absurd hu (Nat.not_lt_zero _))
end Go.Proofs.Yteknagfpiadaiaa.Pl
/- Paths in a list of nodes: the program's text. -/
namespace Go.Proofs.Yteknagfpiadaiaa.Pl
set_option linter.unusedVariables false
set_option linter.unusedSimpArgs false
open Go.RowKit Go.Proofs.Yteknagfpiadaiaa.P Go.Proofs.YteknagfpiadaiaaW.PrintWords Go.Proofs.YteknagfpiadaiaaW.PrintMore
/-- From node i to the root, in front of what is known. -/
def pathS (tr : List Nd) : Nat → Int → List Int → List Int
 | 0, i, out => if i = 0 then (if tr.length = 0 then [] else out) else []
 | f + 1, i, out => if i = 0 then (if tr.length = 0 then [] else out) else if i < 0 ∨ i ≥ (tr.length : Int) then [] else pathS tr f (tr.getD i.toNat zN).f0 ((tr.getD i.toNat zN).f1 :: out)
theorem turn_ev (l : List Int) (hl : l.length ≤ 1000000) : Ev (fun k => karpmiller_Path.l1 k l ([] : List Int) (wrap64 ((l.length : Int) - 1))) l.reverse := by
 have h := Ev_up (L := fun k j => karpmiller_Path.l1 k l (l.reverse.take j) ((l.length : Int) - 1 - (j : Int))) (n := l.length) (r := l.reverse) (fun j hj hr => by
  refine Ev.up ?_
  have e : l.reverse.take (j + 1) = l.reverse.take j ++ [l.getD (l.length - 1 - j) 0] := by
   have := take_map_succ l.reverse id 0 (i := j) (by rw [List.length_reverse]; exact hj)
   simp only [List.map_id, id] at this
   rw [this]
   congr 2
   rw [List.getD_eq_getElem?_getD, List.getElem?_reverse hj, List.getD_eq_getElem?_getD]
  have x : (l.length : Int) - 1 - (j : Int) = ((l.length - 1 - j : Nat) : Int) := by omega
  rw [e] at hr
  simp only [karpmiller_Path.l1, show (l.length : Int) - 1 - (j : Int) ≥ 0 by omega, show 0 ≤ (l.length : Int) - 1 - (j : Int) by omega, show (l.length : Int) - 1 - (j : Int) < (l.length : Int) by omega, ↓reduceIte, show (l.reverse.take j).length < 17592186044416 by rw [List.length_take, List.length_reverse]; omega]
  rw [x, rd_nat, wrap_ok (by omega) (by omega), show ((l.length - 1 - j : Nat) : Int) - 1 = (l.length : Int) - 1 - ((j + 1 : Nat) : Int) by omega]
  exact hr) (Ev.one (fun k => by
   simp only [karpmiller_Path.l1]
   rw [if_neg (by omega), List.take_of_length_le (by rw [List.length_reverse]; exact Nat.le_refl _)]))
 rw [wrap_ok (by omega) (by omega)]
 simpa using h
theorem kpath_go (tr : List Nd) (hl : tr.length ≤ 1000000) : ∀ (f : Nat) (i : Int) (back : List Int) (steps : Nat), steps + f = tr.length → back.length ≤ steps → Ev (fun k => karpmiller_Path.l0 k tr i back (steps : Int)) (pathS tr f i back.reverse)
 | 0, i, back, steps, hs, hb => by
  refine Ev.up ?_
  unfold pathS
  by_cases c : i = 0
  ·subst c
   simp only [karpmiller_Path.l0, ↓reduceIte]
   by_cases d : tr.length = 0
   ·simp only [d, Int.natCast_zero, ↓reduceIte]; exact Ev.some _
   ·simp only [d, show ¬ ((tr.length : Int) = 0) by omega, ↓reduceIte, show back.length ≤ 35184372088832 by omega]
    exact turn_ev back (by omega)
  ·simp only [karpmiller_Path.l0, c, ↓reduceIte]
   by_cases d : i < 0
   ·simp only [d, ↓reduceIte]; exact Ev.some _
   ·by_cases e : i ≥ (tr.length : Int)
    ·simp only [d, e, ↓reduceIte]; exact Ev.some _
    ·simp only [d, e, ↓reduceIte, show (steps : Int) ≥ (tr.length : Int) by omega]; exact Ev.some _
 | f + 1, i, back, steps, hs, hb => by
  refine Ev.up ?_
  unfold pathS
  by_cases c : i = 0
  ·subst c
   simp only [karpmiller_Path.l0, ↓reduceIte]
   by_cases d : tr.length = 0
   ·simp only [d, Int.natCast_zero, ↓reduceIte]; exact Ev.some _
   ·simp only [d, show ¬ ((tr.length : Int) = 0) by omega, ↓reduceIte, show back.length ≤ 35184372088832 by omega]
    exact turn_ev back (by omega)
  ·simp only [karpmiller_Path.l0, c, ↓reduceIte]
   by_cases d : i < 0
   ·simp only [d, true_or, ↓reduceIte]; exact Ev.some _
   ·by_cases e : i ≥ (tr.length : Int)
    ·simp only [d, e, or_true, ↓reduceIte]; exact Ev.some _
    ·obtain ⟨j, rfl⟩ : ∃ j : Nat, i = (j : Int) := ⟨i.toNat, by omega⟩
     simp only [d, e, or_self, ↓reduceIte, show ¬ ((steps : Int) ≥ (tr.length : Int)) by omega, nn, show (j : Int) < (tr.length : Int) by omega, show back.length < 17592186044416 by omega, rdN, Int.toNat_natCast, wrap_up (show steps < tr.length by omega) (by omega)]
     have := kpath_go tr hl f (tr.getD j zN).f0 (back ++ [(tr.getD j zN).f1]) (steps + 1) (by omega) (by rw [List.length_append, List.length_singleton]; omega)
     rw [List.reverse_append, List.reverse_singleton] at this
     exact this
theorem kPath_ev (tr : List Nd) (hl : tr.length ≤ 1000000) (i : Int) : Ev (fun k => karpmiller_Path.f k tr i) (pathS tr tr.length i []) := by
 unfold karpmiller_Path.f
 exact kpath_go tr hl tr.length i [] 0 (by omega) (Nat.le_refl _)
end Go.Proofs.Yteknagfpiadaiaa.Pl
/- Paths in a list of nodes: the reference. -/
namespace Go.Proofs.Yteknagfpiadaiaa.Pl
set_option linter.unusedVariables false
set_option linter.unusedSimpArgs false
open Go.RowKit Go.Proofs.Yteknagfpiadaiaa.P Go.Proofs.YteknagfpiadaiaaW.PrintWords Go.Proofs.YteknagfpiadaiaaW.PrintMore
theorem reflonger_ev {tr : List Nd} {j : Nat} (hj : j < tr.length) (out : List Int) (ho : out.length ≤ 1000000) (x : Int) (st : Int) {r : List Int} (h : Ev (fun k => r22_Path.l0 k tr (tr.getD j zN).f0 (x :: out) (wrap64 (st + 1))) r) : Ev (fun k => r22_Path.l1 k tr (j : Int) out st ([x] : List Int) 0) r := by
 have := Ev_up (L := fun k i => r22_Path.l1 k tr (j : Int) out st (x :: out.take i) (i : Int)) (n := out.length) (r := r) (fun i hi hr => by
  refine Ev.up ?_
  have e : out.take (i + 1) = out.take i ++ [out.getD i 0] := by
   have := take_map_succ out id 0 (i := i) hi
   simpa using this
  rw [e] at hr
  simp only [r22_Path.l1, lt_int hi, nn, ↓reduceIte, rd_nat, show (x :: out.take i).length < 17592186044416 by rw [List.length_cons, List.length_take]; omega, wrap_up hi (by omega : out.length ≤ 9223372036854775807)]
  exact hr) (by
   refine Ev.up ?_
   simp only [r22_Path.l1, Int.lt_irrefl, nn, lt_int hj, ↓reduceIte, rdN, List.take_length]
   exact h)
 simpa using this
theorem refpath_go (tr : List Nd) (hl : tr.length ≤ 1000000) : ∀ (f : Nat) (i : Int) (out : List Int) (steps : Nat), steps + f = tr.length → out.length ≤ steps → Ev (fun k => r22_Path.l0 k tr i out (steps : Int)) (pathS tr f i out)
 | 0, i, out, steps, hs, ho => by
  refine Ev.up ?_
  unfold pathS
  simp only [r22_Path.l0, show (steps : Int) ≤ (tr.length : Int) by omega, ↓reduceIte]
  by_cases d : i < 0
  ·simp only [d, ↓reduceIte, show ¬ (i = 0) by omega]
   exact Ev.one (fun k => by simp only [r22_Path.j1, ↓reduceIte])
  ·simp only [d, ↓reduceIte]
   refine Ev.up ?_
   by_cases e : i ≥ (tr.length : Int)
   ·simp only [e, decide_true, r22_Path.j1, ↓reduceIte]
    by_cases c : i = 0
    ·rw [if_pos c, if_pos (by omega)]; exact Ev.some _
    ·rw [if_neg c]; exact Ev.some _
   ·obtain ⟨j, rfl⟩ : ∃ j : Nat, i = (j : Int) := ⟨i.toNat, by omega⟩
    have hj : j < tr.length := by omega
    simp only [e, decide_false, r22_Path.j1, ↓reduceIte, Bool.false_eq_true, nn, lt_int hj]
    by_cases c : (j : Int) = 0
    ·simp only [c, ↓reduceIte, show ¬ (tr.length = 0) by omega]; exact Ev.some _
    ·simp only [c, ↓reduceIte, rdN]
     refine reflonger_ev hj out (by omega) _ _ ?_
     rw [wrap_ok (by omega) (by omega)]
     refine Ev.one (fun k => ?_)
     simp only [r22_Path.l0]
     rw [if_neg (by omega)]
 | f + 1, i, out, steps, hs, ho => by
  refine Ev.up ?_
  unfold pathS
  simp only [r22_Path.l0, show (steps : Int) ≤ (tr.length : Int) by omega, ↓reduceIte]
  by_cases d : i < 0
  ·simp only [d, ↓reduceIte, show ¬ (i = 0) by omega, true_or]
   exact Ev.one (fun k => by simp only [r22_Path.j1, ↓reduceIte])
  ·simp only [d, ↓reduceIte]
   refine Ev.up ?_
   by_cases e : i ≥ (tr.length : Int)
   ·simp only [e, decide_true, r22_Path.j1, ↓reduceIte, or_true]
    by_cases c : i = 0
    ·rw [if_pos c, if_pos (by omega)]; exact Ev.some _
    ·rw [if_neg c]; exact Ev.some _
   ·obtain ⟨j, rfl⟩ : ∃ j : Nat, i = (j : Int) := ⟨i.toNat, by omega⟩
    have hj : j < tr.length := by omega
    simp only [e, decide_false, r22_Path.j1, ↓reduceIte, Bool.false_eq_true, nn, lt_int hj, or_self]
    by_cases c : (j : Int) = 0
    ·simp only [c, ↓reduceIte, show ¬ (tr.length = 0) by omega]; exact Ev.some _
    ·simp only [c, ↓reduceIte, rdN, Int.toNat_natCast]
     refine reflonger_ev hj out (by omega) _ _ ?_
     rw [wrap_up (show steps < tr.length by omega) (by omega)]
     exact refpath_go tr hl f (tr.getD j zN).f0 ((tr.getD j zN).f1 :: out) (steps + 1) (by omega) (by rw [List.length_cons]; omega)
theorem refPath_ev (tr : List Nd) (hl : tr.length ≤ 1000000) (i : Int) : Ev (fun k => r22_Path.f k tr i) (pathS tr tr.length i []) := by
 unfold r22_Path.f
 exact refpath_go tr hl tr.length i [] 0 (by omega) (Nat.le_refl _)
end Go.Proofs.Yteknagfpiadaiaa.Pl
/- The places of a list that a test takes, one by one. -/
namespace Go.Proofs.Yteknagfpiadaiaa.Pl
open Go.RowKit
theorem filter_len (q : Nat → Bool) (i : Nat) : (((List.range i).filter q).map (fun t : Nat => (t : Int))).length ≤ i := by
 rw [List.length_map]
 exact Nat.le_trans (List.length_filter_le _ _) (by rw [List.length_range]; exact Nat.le_refl _)
theorem filter_next (q : Nat → Bool) (i : Nat) : ((List.range (i + 1)).filter q).map (fun t : Nat => (t : Int)) = if q i = true then ((List.range i).filter q).map (fun t : Nat => (t : Int)) ++ [(i : Int)] else ((List.range i).filter q).map (fun t : Nat => (t : Int)) := by
 rw [filter_range_succ]
 by_cases h : q i = true
 ·rw [if_pos h, if_pos h, List.map_append]; rfl
 ·rw [if_neg h, if_neg h]
end Go.Proofs.Yteknagfpiadaiaa.Pl
/- The unbounded places of a list of nodes: the program's text. -/
namespace Go.Proofs.Yteknagfpiadaiaa.Pl
set_option linter.unusedVariables false
set_option linter.unusedSimpArgs false
open Go.RowKit Go.Proofs.Yteknagfpiadaiaa.P Go.Proofs.YteknagfpiadaiaaW.PrintWords Go.Proofs.YteknagfpiadaiaaW.PrintMore
def mostN (tr : List Nd) : Nat → Nat
 | 0 => 0
 | i + 1 => max (mostN tr i) (tr.getD i zN).f2.length
theorem mx_nat (a b : Nat) : mx (a : Int) (b : Int) = ((max a b : Nat) : Int) := by
 unfold mx
 by_cases h : (a : Int) < (b : Int)
 ·rw [if_pos h, Nat.max_eq_right (by omega)]
 ·rw [if_neg h, Nat.max_eq_left (by omega)]
theorem mostN_le {tr : List Nd} {B : Nat} (h : ∀ i, i < tr.length → (tr.getD i zN).f2.length ≤ B) : ∀ i, i ≤ tr.length → mostN tr i ≤ B
 | 0, _ => Nat.zero_le _
 | i + 1, hi => Nat.max_le.2 ⟨mostN_le h i (by omega), h i (by omega)⟩
/-- Place p is -1 at node i. -/
abbrev OmAt (tr : List Nd) (p i : Nat) : Prop := p < (tr.getD i zN).f2.length ∧ (tr.getD i zN).f2.getD p 0 = -1
def unbS (tr : List Nd) (p : Nat) : Bool := first (fun i => if OmAt tr p i then some true else none) false tr.length
theorem unbS_iff {tr : List Nd} {p : Nat} : unbS tr p = true ↔ ∃ i, i < tr.length ∧ OmAt tr p i := by
 unfold unbS
 rw [first_any]
 by_cases c : ∃ j, j < tr.length ∧ OmAt tr p j
 ·rw [if_pos c]; exact ⟨fun _ => c, fun _ => rfl⟩
 ·rw [if_neg c]; exact ⟨fun h => (by cases h), fun h => absurd h c⟩
def unbL (tr : List Nd) : List Int := ((List.range (mostN tr tr.length)).filter (unbS tr)).map (fun t : Nat => (t : Int))
theorem kunb_at (tr : List Nd) (hl : tr.length ≤ 1000000) {p : Nat} (hp : p ≤ 1000000000) (most : Int) (out : List Int) (ho : out.length ≤ 1000000000) {r : List Int} (h : Ev (fun k => karpmiller_Unbounded.l1 k tr most (if unbS tr p = true then out ++ [(p : Int)] else out) ((p + 1 : Nat) : Int)) r) :
  Ev (fun k => karpmiller_Unbounded.l2 k tr most out (p : Int) tr (tr.length : Int) 0) r := by
 have w : wrap64 ((p : Int) + 1) = ((p + 1 : Nat) : Int) := by rw [wrap_ok (by omega) (by omega)]; omega
 refine Ev_ex (L := fun k i => karpmiller_Unbounded.l2 k tr most out (p : Int) tr (tr.length : Int) (i : Int)) (n := tr.length) (fun i => OmAt tr p i) (a := r) (e := r) (fun i hi c => ?_) (fun i hi c s hs => ?_) (fun c => ?_) (fun _ => rfl) (fun _ => rfl)
 ·refine Ev.up ?_
  rw [if_pos (unbS_iff.2 ⟨i, hi, c⟩)] at h
  simp only [karpmiller_Unbounded.l2, lt_int hi, nn, ↓reduceIte, rdN, lt_int c.1, rd_nat, c.2, show out.length < 17592186044416 by omega, w]
  exact h
 ·refine Ev.up ?_
  simp only [karpmiller_Unbounded.l2, lt_int hi, nn, ↓reduceIte, rdN, rd_nat, wrap_up hi (by omega : tr.length ≤ 9223372036854775807)]
  by_cases d : p < (tr.getD i zN).f2.length
  ·have d2 : ¬ (tr.getD i zN).f2.getD p 0 = -1 := fun x => c ⟨d, x⟩
   simp only [lt_int d, d2, ↓reduceIte]
   exact hs
  ·simp only [show ¬ ((p : Int) < ((tr.getD i zN).f2.length : Int)) by omega, ↓reduceIte]
   exact hs
 ·refine Ev.up ?_
  have : ¬ unbS tr p = true := fun x => by
   obtain ⟨i, hi, y⟩ := unbS_iff.1 x
   exact c i hi y
  rw [if_neg this] at h
  simp only [karpmiller_Unbounded.l2, Int.lt_irrefl, ↓reduceIte, w]
  exact h
theorem kUnb_ev (tr : List Nd) (hl : tr.length ≤ 1000000) (hm : ∀ i, i < tr.length → (tr.getD i zN).f2.length ≤ 1000000000) : Ev (fun k => karpmiller_Unbounded.f k tr) (unbL tr) := by
 unfold karpmiller_Unbounded.f
 refine Ev_up (L := fun k i => karpmiller_Unbounded.l0 k tr (mostN tr i : Int) tr (tr.length : Int) (i : Int)) (n := tr.length) (fun i hi hr => ?_) ?_
 ·refine Ev.up ?_
  simp only [karpmiller_Unbounded.l0, lt_int hi, nn, ↓reduceIte, rdN, mx_nat, wrap_up hi (by omega : tr.length ≤ 9223372036854775807)]
  exact hr
 ·refine Ev.up ?_
  simp only [karpmiller_Unbounded.l0, Int.lt_irrefl, ↓reduceIte]
  have hB := mostN_le hm tr.length (Nat.le_refl _)
  refine Ev_up (L := fun k p => karpmiller_Unbounded.l1 k tr (mostN tr tr.length : Int) (((List.range p).filter (unbS tr)).map (fun t : Nat => (t : Int))) (p : Int)) (n := mostN tr tr.length) (fun p hp hr => ?_) (Ev.one (fun k => by simp only [karpmiller_Unbounded.l1]; rw [if_neg (by omega)]; rfl))
  refine Ev.up ?_
  have fl := filter_len (unbS tr) p
  simp only [karpmiller_Unbounded.l1, lt_int hp, ↓reduceIte]
  rw [filter_next] at hr
  exact kunb_at tr hl (by omega) _ _ (by omega) hr
end Go.Proofs.Yteknagfpiadaiaa.Pl
/- The unbounded places of a list of nodes: the reference. -/
namespace Go.Proofs.Yteknagfpiadaiaa.Pl
set_option linter.unusedVariables false
set_option linter.unusedSimpArgs false
open Go.RowKit Go.Proofs.Yteknagfpiadaiaa.P Go.Proofs.YteknagfpiadaiaaW.PrintWords Go.Proofs.YteknagfpiadaiaaW.PrintMore
/-- Found among the first i nodes. -/
def unbN (tr : List Nd) (p i : Nat) : Bool := first (fun j => if OmAt tr p j then some true else none) false i
theorem unbN_iff {tr : List Nd} {p n : Nat} : unbN tr p n = true ↔ ∃ i, i < n ∧ OmAt tr p i := by
 unfold unbN
 rw [first_any]
 by_cases c : ∃ j, j < n ∧ OmAt tr p j
 ·rw [if_pos c]; exact ⟨fun _ => c, fun _ => rfl⟩
 ·rw [if_neg c]; exact ⟨fun h => (by cases h), fun h => absurd h c⟩
theorem unbN_succ {tr : List Nd} {p i : Nat} (h : ¬ unbN tr p i = true) : unbN tr p (i + 1) = decide (OmAt tr p i) := by
 by_cases c : OmAt tr p i
 ·rw [decide_eq_true c]; exact unbN_iff.2 ⟨i, by omega, c⟩
 ·rw [decide_eq_false c]
  cases e : unbN tr p (i + 1) with
  | false => rfl
  | true =>
   obtain ⟨j, h1, h2⟩ := unbN_iff.1 e
   exact absurd (unbN_iff.2 ⟨j, by
    by_cases d : j = i
    ·subst d; exact absurd h2 c
    ·omega, h2⟩) h
theorem refunb_at (tr : List Nd) (hl : tr.length ≤ 1000000) {p : Nat} (hp : p ≤ 1000000000) (most : Int) (out : List Int) (ho : out.length ≤ 1000000000) {r : List Int} (h : Ev (fun k => r22_Unbounded.l1 k tr most (if unbS tr p = true then out ++ [(p : Int)] else out) ((p + 1 : Nat) : Int)) r) :
  Ev (fun k => r22_Unbounded.l2 k tr most out (p : Int) false 0) r := by
 have w : wrap64 ((p : Int) + 1) = ((p + 1 : Nat) : Int) := by rw [wrap_ok (by omega) (by omega)]; omega
 refine Ev_st (L := fun k s i => r22_Unbounded.l2 k tr most out (p : Int) s i) (n := tr.length) (unbN tr p) (fun i hi hr => ?_) ?_
 ·refine Ev.up ?_
  simp only [r22_Unbounded.l2, lt_int hi, nn, ↓reduceIte, rdN, rd_nat, wrap_up hi (by omega : tr.length ≤ 9223372036854775807)]
  by_cases c : unbN tr p i = true
  ·have e : unbN tr p (i + 1) = true := by
    obtain ⟨j, h1, h2⟩ := unbN_iff.1 c
    exact unbN_iff.2 ⟨j, by omega, h2⟩
   rw [e] at hr
   simp only [c, ↓reduceIte]
   exact hr
  ·rw [unbN_succ c] at hr
   simp only [c, ↓reduceIte, Bool.false_eq_true]
   by_cases d : p < (tr.getD i zN).f2.length
   ·simp only [lt_int d, ↓reduceIte]
    have e : decide (OmAt tr p i) = ((tr.getD i zN).f2.getD p 0 == -1) := by
     by_cases x : (tr.getD i zN).f2.getD p 0 = -1
     ·rw [decide_eq_true ⟨d, x⟩, x]; rfl
     ·rw [decide_eq_false (fun y => x y.2)]; exact (beq_eq_false_iff_ne.2 x).symm
    rw [e] at hr
    exact hr
   ·simp only [show ¬ ((p : Int) < ((tr.getD i zN).f2.length : Int)) by omega, ↓reduceIte]
    rw [decide_eq_false (fun y => d y.1)] at hr
    exact hr
 ·refine Ev.up ?_
  simp only [r22_Unbounded.l2, Int.lt_irrefl, ↓reduceIte, w, show out.length < 17592186044416 by omega]
  have e : unbN tr p tr.length = unbS tr p := rfl
  rw [e]
  by_cases c : unbS tr p = true
  ·simp only [c, ↓reduceIte] at h ⊢; exact h
  ·simp only [c, ↓reduceIte, Bool.false_eq_true] at h ⊢; exact h
theorem refUnb_ev (tr : List Nd) (hl : tr.length ≤ 1000000) (hm : ∀ i, i < tr.length → (tr.getD i zN).f2.length ≤ 1000000000) : Ev (fun k => r22_Unbounded.f k tr) (unbL tr) := by
 unfold r22_Unbounded.f
 refine Ev_up (L := fun k i => r22_Unbounded.l0 k tr (mostN tr i : Int) (i : Int)) (n := tr.length) (fun i hi hr => ?_) ?_
 ·refine Ev.up ?_
  simp only [r22_Unbounded.l0, lt_int hi, nn, ↓reduceIte, rdN, mx_nat, wrap_up hi (by omega : tr.length ≤ 9223372036854775807)]
  exact hr
 ·refine Ev.up ?_
  simp only [r22_Unbounded.l0, Int.lt_irrefl, ↓reduceIte]
  have hB := mostN_le hm tr.length (Nat.le_refl _)
  refine Ev_up (L := fun k p => r22_Unbounded.l1 k tr (mostN tr tr.length : Int) (((List.range p).filter (unbS tr)).map (fun t : Nat => (t : Int))) (p : Int)) (n := mostN tr tr.length) (fun p hp hr => ?_) (Ev.one (fun k => by simp only [r22_Unbounded.l1]; rw [if_neg (by omega)]; rfl))
  refine Ev.up ?_
  have fl := filter_len (unbS tr) p
  simp only [r22_Unbounded.l1, lt_int hp, ↓reduceIte]
  rw [filter_next] at hr
  exact refunb_at tr hl (by omega) _ _ (by omega) hr
end Go.Proofs.Yteknagfpiadaiaa.Pl
/- The reference's comparison of lists. -/
namespace Go.Proofs.Yteknagfpiadaiaa.Pl
set_option linter.unusedVariables false
set_option linter.unusedSimpArgs false
open Go.RowKit Go.Proofs.Yteknagfpiadaiaa.P Go.Proofs.YteknagfpiadaiaaW.PrintWords Go.Proofs.YteknagfpiadaiaaW.PrintMore
theorem same04_ev (a b : List Int) (ha : a.length ≤ 1000000000) : Ev (fun k => r04_Same.f k a b) (decide (a = b)) := by
 unfold r04_Same.f
 by_cases h : (a.length : Int) = (b.length : Int)
 ·simp only [h, ↓reduceIte]
  have hl : a.length = b.length := by omega
  have := Ev_loop (L := fun k i => r04_Same.l0 k a b (i : Int)) (n := a.length) 1 (fun i => if a.getD i 0 = b.getD i 0 then none else some false) (e := true) (fun k i hi => by
   simp only [r04_Same.l0, lt_int hi, nn, ↓reduceIte, rd_nat, lt_int (show i < b.length by omega), wrap_up hi (by omega : a.length ≤ 9223372036854775807)]
   by_cases c : a.getD i 0 = b.getD i 0
   ·simp only [c, ↓reduceIte]; rfl
   ·simp only [c, ↓reduceIte]; rfl) (Ev.one (fun k => by simp only [r04_Same.l0]; rw [if_neg (by omega)]))
  refine Eq.mp ?_ this
  congr 1
  rcases first_cases (fun i => if a.getD i 0 = b.getD i 0 then none else some false) true a.length with ⟨h1, h2⟩ | ⟨j, h1, h2, _⟩
  ·rw [h1, decide_eq_true]
   exact ext_getD 0 hl (fun i hi => of_ite_none (h2 i hi))
  ·obtain ⟨c1, c2⟩ := of_ite_some h2
   rw [← c2, decide_eq_false]
   rintro rfl; exact c1 rfl
 ·simp only [h, ↓reduceIte]
  rw [decide_eq_false (by rintro rfl; exact h rfl)]
  exact Ev.some _
end Go.Proofs.Yteknagfpiadaiaa.Pl
namespace Go.Proofs.Yteknagfpiadaiaa.Pure
open Go.RowKit Go.Proofs.Yteknagfpiadaiaa.P Go.Proofs.Yteknagfpiadaiaa.Pl Go.Proofs.YteknagfpiadaiaaW.PrintWords
theorem pathS_len (tr : List Nd) : ∀ (f : Nat) (i : Int) (out : List Int), (pathS tr f i out).length ≤ out.length + f
 | 0, i, out => by
  unfold pathS
  split
  ·split
   ·simp
   ·exact Nat.le_add_right _ _
  ·simp
 | f + 1, i, out => by
  unfold pathS
  split
  ·split
   ·simp
   ·exact Nat.le_add_right _ _
  ·split
   ·simp
   ·have := pathS_len tr f (tr.getD i.toNat zN).f0 ((tr.getD i.toNat zN).f1 :: out)
    rw [List.length_cons] at this
    omega
theorem KarpmillerReads (tr : List Nd) {w : Prop} (_h : w) (i : Int) {w1 : Prop} (_h1 : w1) : ∃ k, petrinetlaw22_KarpmillerReads.f k tr i = some true := by
 refine Ev.rounds (g := fun k => petrinetlaw22_KarpmillerReads.f k tr i) ?_
 unfold petrinetlaw22_KarpmillerReads.f
 obtain ⟨b, hb, hb2⟩ := few22_ev tr
 refine Ev.bind hb ?_
 cases b with
 | false =>
  simp only [Bool.false_eq_true, ↓reduceIte]
  exact alive'
 | true =>
  have hF := hb2 rfl
  have hl := hF.len
  have l1 := pathS_len tr tr.length i []
  have l2 : (unbL tr).length ≤ 30 := by
   have := filter_len (unbS tr) (mostN tr tr.length)
   have := mostN_le hF.row tr.length (Nat.le_refl _)
   unfold unbL
   omega
  have hr : ∀ i, i < tr.length → (tr.getD i zN).f2.length ≤ 1000000000 := fun i hi => Nat.le_trans (hF.row i hi) (by decide)
  simp only [↓reduceIte]
  refine Ev.bind (kPath_ev tr (by omega) i) ?_
  refine Ev.bind (refPath_ev tr (by omega) i) ?_
  refine Ev.bind (same04_ev _ _ (by simp at l1; omega)) ?_
  simp only [decide_true, ↓reduceIte]
  refine Ev.bind (kUnb_ev tr (by omega) hr) ?_
  refine Ev.bind (refUnb_ev tr (by omega) hr) ?_
  refine Ev.bind (same04_ev _ _ (by omega)) ?_
  simp only [decide_true, ↓reduceIte]
  exact alive'
end Go.Proofs.Yteknagfpiadaiaa.Pure
