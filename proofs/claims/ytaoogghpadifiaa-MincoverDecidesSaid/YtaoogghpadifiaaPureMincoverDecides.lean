/- The plain law of MincoverDecides: for every net, marking and sequence the law's function answers true, with rounds enough. -/
-- MERGED: the plain texts that it needs, in one
import Derived.Test.YtaoogghpadifiaaPx20
import Derived.Test.YtaoogghpadifiaaPx7
import Derived.Test.YtaoogghpadifiaaVAll
import Derived.Test.YtaoogghpadifiaaPx19
import Derived.Test.YtaoogghpadifiaaPx4
import Derived.Laws.Strings
import Derived.WideShapes
import Derived.Test.YtaoogghpadifiaaPx5
import Derived.Test.YtaoogghpadifiaaPx0
import Derived.Test.YtaoogghpadifiaaPx6
import Derived.Test.YtaoogghpadifiaaPx3
import Derived.Test.YtaoogghpadifiaaPx8
import Derived.Test.YtaoogghpadifiaaPx17
import Derived.Test.YtaoogghpadifiaaPx2
import Derived.Test.YtaoogghpadifiaaPx1
set_option linter.unusedVariables false
set_option linter.unusedSimpArgs false
namespace Go.Proofs.Ytaoogghpadifiaa.Pl
open Go.RowKit Go.Proofs.YtaoogghpadifiaaW.PrintWords Go.Proofs.YtaoogghpadifiaaW.PrintMore
theorem wrap_ok {x : Int} (h0 : -9223372036854775808 ≤ x) (h1 : x ≤ 9223372036854775807) : wrap64 x = x := by unfold wrap64; omega
theorem wrap_up {i n : Nat} (h : i < n) (hn : n ≤ 9223372036854775807) : wrap64 ((i : Int) + 1) = ((i + 1 : Nat) : Int) := by rw [wrap_ok (by omega) (by omega)]; omega
theorem Ev.some {α : Type} (r : α) : Ev (fun _ => Option.some r) r := ⟨0, fun _ _ => rfl⟩
theorem Ev.one {α : Type} {g : Nat → Option α} {r : α} (h : ∀ k, g (k + 1) = Option.some r) : Ev g r := Ev.step h (Ev.some r)
section
variable {α : Type}
theorem rd_nat (xs : List Int) (i : Nat) : rd xs (i : Int) = xs.getD i 0 := by simp [rd]
theorem rdOf_nat (d : α) (xs : List α) (i : Nat) : rdOf d xs (i : Int) = xs.getD i d := by simp [rdOf]
theorem rdOf_app (d : α) (xs : List α) (x : α) (j : Int) (j0 : 0 ≤ j) : rdOf d (xs ++ [x]) j = if j = xs.length then x else rdOf d xs j := by
 unfold rdOf
 simp only [List.getD_eq_getElem?_getD, List.getElem?_append]
 by_cases e : j = xs.length
 ·subst e; simp
 ·rw [if_neg e]
  by_cases h : j.toNat < xs.length
  ·simp [h]
  ·rw [if_neg h]
   have h2 : ¬ j.toNat - xs.length < 1 := by omega
   simp [List.getElem?_eq_none (show ([x] : List α).length ≤ j.toNat - xs.length by simp; omega), List.getElem?_eq_none (show xs.length ≤ j.toNat by omega)]
end
def firstOr {ρ : Type} (p : Nat → Option ρ) (e : ρ) : Nat → Nat → ρ
 | _, 0 => e
 | i, d + 1 => match p i with | some r => r | none => firstOr p e (i + 1) d
theorem firstOr_congr {ρ : Type} {p q : Nat → Option ρ} {e : ρ} : ∀ (d i : Nat), (∀ j, i ≤ j → j < i + d → p j = q j) → firstOr p e i d = firstOr q e i d
 | 0, _, _ => rfl
 | d + 1, i, h => by
  unfold firstOr
  rw [h i (Nat.le_refl _) (by omega)]
  cases q i with
  | some r => rfl
  | none => exact firstOr_congr d (i + 1) (fun j h1 h2 => h j (by omega) (by omega))
theorem firstOr_cases {ρ : Type} (p : Nat → Option ρ) (e : ρ) : ∀ (d i : Nat), (firstOr p e i d = e ∧ ∀ j, i ≤ j → j < i + d → p j = none) ∨ ∃ j, i ≤ j ∧ j < i + d ∧ p j = some (firstOr p e i d) ∧ ∀ m, i ≤ m → m < j → p m = none
 | 0, i => .inl ⟨rfl, fun j h1 h2 => by omega⟩
 | d + 1, i => by
  unfold firstOr
  cases h : p i with
  | some r => exact .inr ⟨i, Nat.le_refl _, by omega, h, fun m h1 h2 => by omega⟩
  | none =>
   rcases firstOr_cases p e d (i + 1) with ⟨h1, h2⟩ | ⟨j, h1, h2, h3, h4⟩
   ·refine .inl ⟨h1, fun j j1 j2 => ?_⟩
    by_cases hj : j = i
    ·rw [hj]; exact h
    ·exact h2 j (by omega) (by omega)
   ·refine .inr ⟨j, by omega, by omega, h3, fun m m1 m2 => ?_⟩
    by_cases hm : m = i
    ·rw [hm]; exact h
    ·exact h4 m (by omega) m2
theorem firstOr_all {ρ : Type} {p : Nat → Option ρ} {e : ρ} : ∀ {d i : Nat}, (∀ j, i ≤ j → j < i + d → p j = none) → firstOr p e i d = e
 | 0, _, _ => rfl
 | d + 1, i, h => by
  unfold firstOr
  rw [h i (Nat.le_refl _) (by omega)]
  exact firstOr_all (fun j h1 h2 => h j (by omega) (by omega))
theorem firstOr_at {ρ : Type} {p : Nat → Option ρ} {e r : ρ} : ∀ {d i : Nat} (j : Nat), i ≤ j → j < i + d → p j = some r → (∀ m, i ≤ m → m < j → p m = none) → firstOr p e i d = r
 | 0, _, _, h1, h2, _, _ => by omega
 | d + 1, i, j, h1, h2, h3, h4 => by
  unfold firstOr
  by_cases hj : j = i
  ·subst hj; rw [h3]
  ·rw [h4 i (Nat.le_refl _) (by omega)]
   exact firstOr_at j (by omega) (by omega) h3 (fun m m1 m2 => h4 m (by omega) m2)
def first {ρ : Type} (p : Nat → Option ρ) (e : ρ) (n : Nat) : ρ := firstOr p e 0 n
theorem first_congr {ρ : Type} {p q : Nat → Option ρ} {e : ρ} {n : Nat} (h : ∀ j, j < n → p j = q j) : first p e n = first q e n := firstOr_congr n 0 (fun j _ h2 => h j (by omega))
theorem qCP {ρ : Type} (p : Nat → Option ρ) (e : ρ) (n : Nat) : (first p e n = e ∧ ∀ j, j < n → p j = none) ∨ ∃ j, j < n ∧ p j = some (first p e n) ∧ ∀ m, m < j → p m = none := by
 rcases firstOr_cases p e n 0 with ⟨h1, h2⟩ | ⟨j, _, h2, h3, h4⟩
 · exact .inl ⟨h1, fun j h => h2 j (Nat.zero_le _) (by omega)⟩
 · exact .inr ⟨j, by omega, h3, fun m h => h4 m (Nat.zero_le _) h⟩
theorem first_all {ρ : Type} {p : Nat → Option ρ} {e : ρ} {n : Nat} (h : ∀ j, j < n → p j = none) : first p e n = e := firstOr_all (fun j _ h2 => h j (by omega))
theorem first_at {ρ : Type} {p : Nat → Option ρ} {e r : ρ} {n : Nat} (j : Nat) (h2 : j < n) (h3 : p j = some r) (h4 : ∀ m, m < j → p m = none) : first p e n = r := firstOr_at j (Nat.zero_le _) (by omega) h3 (fun m _ h => h4 m h)
theorem Ev_firstFrom {ρ : Type} {L : Nat → Nat → Option ρ} {n : Nat} (p : Nat → Option ρ) {e : ρ}
  (go : ∀ i, i < n → p i = none → ∀ r, Ev (fun k => L k (i + 1)) r → Ev (fun k => L k i) r)
  (stop : ∀ i r, i < n → p i = some r → Ev (fun k => L k i) r) (fin : (∀ j, j < n → p j = none) → Ev (fun k => L k n) e) :
  ∀ (d i : Nat), i + d = n → (∀ j, j < i → p j = none) → Ev (fun k => L k i) (firstOr p e i d) := by
 intro d
 induction d with
 | zero =>
  intro i hi hb
  obtain rfl : i = n := by omega
  exact fin hb
 | succ d ih =>
  intro i hi hb
  unfold firstOr
  cases h : p i with
  | some r => exact stop i r (by omega) h
  | none => exact go i (by omega) h _ (ih (i + 1) (by omega) (fun j hj => by
    by_cases e : j = i
    ·rw [e]; exact h
    ·exact hb j (by omega)))
theorem Ev_first' {ρ : Type} {L : Nat → Nat → Option ρ} {n : Nat} (p : Nat → Option ρ) {e : ρ}
  (go : ∀ i, i < n → p i = none → ∀ r, Ev (fun k => L k (i + 1)) r → Ev (fun k => L k i) r)
  (stop : ∀ i r, i < n → p i = some r → Ev (fun k => L k i) r) (fin : (∀ j, j < n → p j = none) → Ev (fun k => L k n) e) : Ev (fun k => L k 0) (first p e n) :=
 Ev_firstFrom p go stop fin n 0 (by omega) (fun j h => by omega)
theorem Ev_first {ρ : Type} {L : Nat → Nat → Option ρ} {n : Nat} (p : Nat → Option ρ) {e : ρ}
  (go : ∀ i, i < n → p i = none → ∀ r, Ev (fun k => L k (i + 1)) r → Ev (fun k => L k i) r)
  (stop : ∀ i r, i < n → p i = some r → Ev (fun k => L k i) r) (fin : Ev (fun k => L k n) e) : Ev (fun k => L k 0) (first p e n) :=
 Ev_first' p go stop (fun _ => fin)
theorem Ev_up {ρ : Type} {L : Nat → Nat → Option ρ} {n : Nat} {r : ρ}
  (go : ∀ i, i < n → Ev (fun k => L k (i + 1)) r → Ev (fun k => L k i) r) (fin : Ev (fun k => L k n) r) : Ev (fun k => L k 0) r := by
 have h : ∀ d i, i + d = n → Ev (fun k => L k i) r := by
  intro d
  induction d with
  | zero =>
   intro i hi
   obtain rfl : i = n := by omega
   exact fin
  | succ d ih => intro i hi; exact go i (by omega) (ih (i + 1) (by omega))
 exact h n 0 (by omega)
theorem take_map_succ {α β : Type} (l : List α) (f : α → β) (z : α) {i : Nat} (h : i < l.length) : (l.take (i + 1)).map f = (l.take i).map f ++ [f (l.getD i z)] := by
 rw [List.take_succ_eq_append_getElem h, List.map_append, List.getD_eq_getElem?_getD, List.getElem?_eq_getElem h]
 rfl
theorem getD_mem {α : Type} (l : List α) (z : α) {i : Nat} (h : i < l.length) : l.getD i z ∈ l := by
 rw [List.getD_eq_getElem?_getD, List.getElem?_eq_getElem h]
 exact List.getElem_mem h
theorem filter_range_succ (q : Nat → Bool) (i : Nat) : (List.range (i + 1)).filter q = if q i = true then (List.range i).filter q ++ [i] else (List.range i).filter q := by
 rw [List.range_succ, List.filter_append]
 by_cases h : q i = true
 · rw [if_pos h, List.filter_cons_of_pos h]; rfl
 · rw [if_neg h, List.filter_cons_of_neg h]; simp
theorem Ev.stepn {α : Type} {g f : Nat → Option α} {r : α} (m : Nat) (h : ∀ k, g (k + m) = f k) (hf : Ev f r) : Ev g r := by
 obtain ⟨K, hK⟩ := hf
 exact ⟨K + m, fun k hk => by obtain ⟨d, rfl⟩ : ∃ d, k = d + m := ⟨k - m, by omega⟩; rw [h]; exact hK d (by omega)⟩
theorem ite_or {α : Type} (c1 c2 : Prop) [Decidable c1] [Decidable c2] (g : Bool → α) : (if c1 then g true else g (decide c2)) = g (decide (c1 ∨ c2)) := by
 by_cases h : c1
 · rw [if_pos h, decide_eq_true (Or.inl h)]
 · rw [if_neg h]; congr 1; simp [h]
theorem ite_or2 {α : Type} (c1 c2 : Prop) [Decidable c1] [Decidable c2] (a b : α) : (if c1 then a else if c2 then a else b) = if c1 ∨ c2 then a else b := by
 by_cases h : c1
 ·rw [if_pos h, if_pos (Or.inl h)]
 ·by_cases h2 : c2
  ·rw [if_neg h, if_pos h2, if_pos (Or.inr h2)]
  ·rw [if_neg h, if_neg h2, if_neg (fun h3 => h3.elim h h2)]
theorem of_ite_none {α : Type} {c : Prop} [Decidable c] {a : α} (h : (if c then none else some a) = none) : c := Classical.byContradiction fun hn => by rw [if_neg hn] at h; cases h
theorem of_ite_some {α : Type} {c : Prop} [Decidable c] {a r : α} (h : (if c then none else some a) = some r) : ¬ c ∧ a = r := by
 by_cases hc : c
 · rw [if_pos hc] at h; cases h
 · rw [if_neg hc] at h; exact ⟨hc, Option.some.inj h⟩
def stepO {ρ : Type} (a : Option ρ) (b : Option ρ) : Option ρ := match a with | some r => some r | none => b
theorem Ev_loop {ρ : Type} {L : Nat → Nat → Option ρ} {n : Nat} (m : Nat) (p : Nat → Option ρ) {e : ρ}
  (step : ∀ k i, i < n → L (k + m) i = stepO (p i) (L k (i + 1))) (fin : Ev (fun k => L k n) e) : Ev (fun k => L k 0) (first p e n) :=
 Ev_first p (fun i hi hp r hr => Ev.stepn m (fun k => by rw [step k i hi, hp]; rfl) hr) (fun i r hi hp => Ev.stepn m (f := fun _ => some r) (fun k => by rw [step k i hi, hp]; rfl) (Ev.some r)) fin
theorem first_any {ρ : Type} (c : Nat → Prop) [DecidablePred c] (a e : ρ) (n : Nat) : first (fun j => if c j then some a else none) e n = if ∃ j, j < n ∧ c j then a else e := by
 rcases qCP (fun j => if c j then some a else none) e n with ⟨h1, h2⟩ | ⟨j, h1, h2, h3⟩
 ·rw [h1, if_neg]
  rintro ⟨j, hj, hc⟩
  have := h2 j hj
  simp [hc] at this
 ·have hc : c j := by
   refine Classical.byContradiction fun hn => ?_
   simp [hn] at h2
  rw [if_pos ⟨j, h1, hc⟩]
  simp [hc] at h2
  exact h2.symm
theorem any_take {α β : Type} (l : List α) (f : α → β) (q : β → Bool) (z : α) {i : Nat} (hi : i ≤ l.length) : ((l.take i).map f).any q = true ↔ ∃ j, j < i ∧ q (f (l.getD j z)) = true := by
 rw [List.any_eq_true]
 constructor
 ·rintro ⟨x, hx, hq⟩
  obtain ⟨y, hy, rfl⟩ := List.mem_map.1 hx
  obtain ⟨j, hj, rfl⟩ := List.getElem_of_mem hy
  rw [List.length_take] at hj
  refine ⟨j, by omega, ?_⟩
  rw [List.getElem_take] at hq
  rw [List.getD_eq_getElem?_getD, List.getElem?_eq_getElem (by omega)]
  exact hq
 ·rintro ⟨j, hj, hq⟩
  refine ⟨f (l.getD j z), List.mem_map.2 ⟨l.getD j z, ?_, rfl⟩, hq⟩
  rw [List.getD_eq_getElem?_getD, List.getElem?_eq_getElem (by omega)]
  exact List.mem_take_iff_getElem.2 ⟨j, by omega, rfl⟩
theorem any_all {α β : Type} (l : List α) (f : α → β) (q : β → Bool) (z : α) : (l.map f).any q = true ↔ ∃ j, j < l.length ∧ q (f (l.getD j z)) = true := by
 have := any_take l f q z (Nat.le_refl l.length)
 rwa [List.take_length] at this
theorem dec_t {p : Prop} {i : Decidable p} (h : p) : @decide p i = true := decide_eq_true h
theorem dec_f {p : Prop} {i : Decidable p} (h : ¬ p) : @decide p i = false := decide_eq_false h
theorem of_dec {p : Prop} {i : Decidable p} (h : @decide p i = true) : p := of_decide_eq_true h
theorem Ev_ex {ρ : Type} {L : Nat → Nat → Option ρ} {n : Nat} (c : Nat → Prop) {a e r : ρ}
  (yes : ∀ i, i < n → c i → Ev (fun k => L k i) a)
  (no : ∀ i, i < n → ¬ c i → ∀ r, Ev (fun k => L k (i + 1)) r → Ev (fun k => L k i) r)
  (fin : (∀ j, j < n → ¬ c j) → Ev (fun k => L k n) e) (ha : (∃ j, j < n ∧ c j) → r = a) (he : (∀ j, j < n → ¬ c j) → r = e) : Ev (fun k => L k 0) r := by
 have go : ∀ d i, i + d = n → (∀ j, j < i → ¬ c j) → Ev (fun k => L k i) r := by
  intro d
  induction d with
  | zero =>
   intro i hi hb
   obtain rfl : i = n := by omega
   rw [he hb]
   exact fin hb
  | succ d ih =>
   intro i hi hb
   by_cases h : c i
   ·rw [ha ⟨i, by omega, h⟩]
    exact yes i (by omega) h
   ·exact no i (by omega) h _ (ih (i + 1) (by omega) (fun j hj => by
     by_cases e : j = i
     ·rw [e]; exact h
     ·exact hb j (by omega)))
 exact go n 0 (by omega) (fun j h => by omega)
theorem Ev_st {ρ σ : Type} {L : Nat → σ → Int → Option ρ} {n : Nat} {r : ρ} (s : Nat → σ)
  (go : ∀ i, i < n → Ev (fun k => L k (s (i + 1)) ((i + 1 : Nat) : Int)) r → Ev (fun k => L k (s i) (i : Int)) r) (fin : Ev (fun k => L k (s n) (n : Int)) r) : Ev (fun k => L k (s 0) 0) r :=
 Ev_up (L := fun k i => L k (s i) (i : Int)) (n := n) go fin
abbrev mr {α : Type} (n : Nat) (f : Nat → α) : List α := (List.range n).map f
theorem mr_get {α : Type} {n v : Nat} (f : Nat → α) (d : α) (h : v < n) : (mr n f).getD v d = f v := by
 rw [List.getD_eq_getElem?_getD, List.getElem?_map, List.getElem?_range h]; rfl
theorem mr_len {α : Type} (n : Nat) (f : Nat → α) : (mr n f).length = n := by rw [List.length_map, List.length_range]
theorem mr_congr {α : Type} {n : Nat} {f g : Nat → α} (h : ∀ v, v < n → f v = g v) : mr n f = mr n g := List.map_congr_left fun v hv => h v (List.mem_range.1 hv)
theorem mr_set {α : Type} {n p : Nat} (f : Nat → α) (x : α) : (mr n f).set p x = mr n (fun v => if v = p then x else f v) := by
 refine List.ext_getElem? fun i => ?_
 rw [List.getElem?_set, List.getElem?_map, List.getElem?_map, List.length_map, List.length_range]
 by_cases hi : i < n
 ·rw [List.getElem?_range hi]
  by_cases e : p = i
  ·subst e; simp [hi]
  ·simp [e, Ne.symm e]
 ·rw [List.getElem?_eq_none (by simpa using hi)]
  by_cases e : p = i
  ·subst e; simp [hi]
  ·simp [e]
theorem mr_rep {α : Type} (n : Nat) (x : α) : List.replicate n x = mr n (fun _ => x) := by
 refine List.ext_getElem (by simp) fun i h1 h2 => by simp
theorem Ev.up {α : Type} {g : Nat → Option α} {r : α} (h : Ev (fun k => g (k + 1)) r) : Ev g r := Ev.step (fun _ => rfl) h
theorem nn (i : Nat) : 0 ≤ (i : Int) := Int.natCast_nonneg i
theorem lt_int {i n : Nat} (h : i < n) : (i : Int) < (n : Int) := by omega
open Go.Proofs.Ytaoogghpadifiaa.P
set_option maxRecDepth 100000 in
theorem alive : Ev (fun k => qAB.f k) true := Ev.of (fun k => qAB.mono k) (k := 60) (by decide +kernel)
theorem alive' : Ev (fun k => (qAB.f k).bind fun t => some t) true := Ev.bind alive (Ev.some _)
abbrev Pla := S64
abbrev Tra := S38
abbrev Ac := S68
abbrev zP : Pla := z64
abbrev zT : Tra := z38
abbrev zA : Ac := z68
theorem rdP (xs : List Pla) (i : Nat) : rd_T64 xs (i : Int) = xs.getD i zP := by simp [rd_T64]
theorem rdT (xs : List Tra) (i : Nat) : rd_T38 xs (i : Int) = xs.getD i zT := by simp [rd_T38]
theorem rdA (xs : List Ac) (i : Nat) : rd_T68 xs (i : Int) = xs.getD i zA := by simp [rd_T68]
theorem rdAs (xs : List (List Ac)) (i : Nat) : rd_L4 xs (i : Int) = xs.getD i [] := by simp [rd_L4]
def arcE (np : Int) (l : List Ac) (i : Nat) : Option Int :=
 if (l.getD i zA).f0 < 0 ∨ (l.getD i zA).f0 ≥ np then some 7 else if 0 < i ∧ (l.getD (i - 1) zA).f0 ≥ (l.getD i zA).f0 then some 8 else if (l.getD i zA).f1 < 1 ∨ (l.getD i zA).f1 > 99 then some 9 else none
def arcsE (np : Int) (l : List Ac) : Int := first (arcE np l) 0 l.length
theorem checkArcs_step (k : Nat) (l : List Ac) (np : Int) (i : Nat) (hi : i < l.length) (hl : l.length ≤ 1000000) :
  qBB.l0 (k + 3) l np l (l.length : Int) (i : Int) = stepO (arcE np l i) (qBB.l0 k l np l (l.length : Int) ((i + 1 : Nat) : Int)) := by
 simp only [qBB.l0]
 rw [if_pos (by omega), if_pos (by omega), if_pos (by omega), rdA, ite_or _ _ (fun b => qBB.j1 (k + 2) l np (i : Int) l (l.length : Int) (i : Int) b (l.getD i zA).f0 (l.getD i zA).f1)]
 unfold arcE
 by_cases c1 : (l.getD i zA).f0 < 0 ∨ (l.getD i zA).f0 ≥ np
 ·rw [decide_eq_true c1, if_pos c1]; simp only [qBB.j1, ↓reduceIte, stepO]
 ·rw [decide_eq_false c1, if_neg c1]
  have e2 : ∀ b : Bool, qBB.j2 (k + 1) l np l (l.length : Int) (i : Int) b (l.getD i zA).f0 (l.getD i zA).f1 = if b = true then some 8 else if (l.getD i zA).f1 < 1 ∨ (l.getD i zA).f1 > 99 then some 9 else qBB.l0 k l np l (l.length : Int) ((i + 1 : Nat) : Int) := by
   intro b
   simp only [qBB.j2]
   rw [wrap_up hi (by omega), ite_or2]
  simp only [qBB.j1]
  rw [if_neg Bool.false_ne_true]
  by_cases c2 : 0 < i
  ·rw [if_pos (by omega), if_pos (by rw [wrap_ok (by omega) (by omega)]; omega), if_pos (by rw [wrap_ok (by omega) (by omega)]; omega), wrap_ok (x := (i : Int) - 1) (by omega) (by omega), show ((i : Int) - 1) = ((i - 1 : Nat) : Int) by omega, rdA, e2]
   by_cases c3 : (l.getD (i - 1) zA).f0 ≥ (l.getD i zA).f0
   ·rw [decide_eq_true c3, if_pos rfl, if_pos ⟨c2, c3⟩]; rfl
   ·rw [decide_eq_false c3, if_neg Bool.false_ne_true, if_neg (show ¬ (0 < i ∧ (l.getD (i - 1) zA).f0 ≥ (l.getD i zA).f0) from fun h => c3 h.2)]
    by_cases d : (l.getD i zA).f1 < 1 ∨ (l.getD i zA).f1 > 99
    ·rw [if_pos d, if_pos d]; rfl
    ·rw [if_neg d, if_neg d]; rfl
  ·rw [if_neg (by omega), e2, if_neg Bool.false_ne_true, if_neg (show ¬ (0 < i ∧ (l.getD (i - 1) zA).f0 ≥ (l.getD i zA).f0) from fun h => c2 h.1)]
   by_cases d : (l.getD i zA).f1 < 1 ∨ (l.getD i zA).f1 > 99
   ·rw [if_pos d, if_pos d]; rfl
   ·rw [if_neg d, if_neg d]; rfl
theorem checkArcs_ev (l : List Ac) (np : Int) (hl : l.length ≤ 1000000) : Ev (fun k => qBB.f k l np) (arcsE np l) :=
 Ev_loop (L := fun k i => qBB.l0 k l np l (l.length : Int) (i : Int)) 3 (arcE np l) (fun k i hi => checkArcs_step k l np i hi hl)
  (Ev.one (fun k => by simp only [qBB.l0]; rw [if_neg (by omega)]))
def transE (np : Int) (t : Tra) : Int := if t.f4 < 0 ∨ t.f4 > 9 then 1 else if arcsE np t.f1 ≠ 0 then arcsE np t.f1 else if arcsE np t.f2 ≠ 0 then arcsE np t.f2 else arcsE np t.f3
def ThinT (t : Tra) : Prop := t.f0.size ≤ 1000000 ∧ t.f1.length ≤ 1000000 ∧ t.f2.length ≤ 1000000 ∧ t.f3.length ≤ 1000000
theorem checkTrans_ev (t : Tra) (np : Int) (ht : ThinT t) : Ev (fun k => qBC.f k t.f0 t.f1 t.f2 t.f3 t.f4 np) (transE np t) := by
 have e0 : ∀ k, qBC.f k t.f0 t.f1 t.f2 t.f3 t.f4 np = qBC.j0 k np (decide (t.f4 < 0 ∨ t.f4 > 9)) t.f0 t.f1 t.f2 t.f3 t.f4 := fun k => by
  unfold qBC.f
  exact ite_or _ _ (fun b => qBC.j0 k np b t.f0 t.f1 t.f2 t.f3 t.f4)
 refine Ev.congr e0 ?_
 unfold transE
 by_cases c : t.f4 < 0 ∨ t.f4 > 9
 ·rw [decide_eq_true c, if_pos c]
  exact Ev.one (fun k => by simp only [qBC.j0, ↓reduceIte])
 ·rw [decide_eq_false c, if_neg c]
  refine Ev.step (f := fun k => qBC.l0 k np [t.f1, t.f2, t.f3] 3 ((0 : Nat) : Int)) (fun k => by simp only [qBC.j0]; rw [if_neg Bool.false_ne_true]; rfl) ?_
  have hm : ∀ i, i < 3 → ([t.f1, t.f2, t.f3].getD i []).length ≤ 1000000 := fun i hi => by
   obtain ⟨_, h1, h2, h3⟩ := ht
   rcases i with _ | _ | _ | i
   ·exact h1
   ·exact h2
   ·exact h3
   ·omega
  have h := Ev_first (L := fun k i => qBC.l0 k np [t.f1, t.f2, t.f3] 3 (i : Int)) (n := 3) (fun i => if arcsE np ([t.f1, t.f2, t.f3].getD i []) = 0 then none else some (arcsE np ([t.f1, t.f2, t.f3].getD i []))) (e := 0)
   (fun i hi hp r hr => Ev.step (f := fun k => (qBB.f k ([t.f1, t.f2, t.f3].getD i []) np).bind fun e => if e = 0 then qBC.l0 k np [t.f1, t.f2, t.f3] 3 ((i + 1 : Nat) : Int) else some e) (fun k => by
    simp only [qBC.l0]
    rw [if_pos (by omega), if_pos (by omega), if_pos (by simp only [List.length_cons, List.length_nil]; omega), rdAs, wrap_up hi (by omega)]) (by
     refine Ev.bind (checkArcs_ev _ np (hm i hi)) ?_
     have h0 : arcsE np ([t.f1, t.f2, t.f3].getD i []) = 0 := of_ite_none hp
     simp only [h0, ↓reduceIte]
     exact hr))
   (fun i r hi hp => Ev.step (f := fun k => (qBB.f k ([t.f1, t.f2, t.f3].getD i []) np).bind fun e => if e = 0 then qBC.l0 k np [t.f1, t.f2, t.f3] 3 ((i + 1 : Nat) : Int) else some e) (fun k => by
    simp only [qBC.l0]
    rw [if_pos (by omega), if_pos (by omega), if_pos (by simp only [List.length_cons, List.length_nil]; omega), rdAs, wrap_up hi (by omega)]) (by
     refine Ev.bind (checkArcs_ev _ np (hm i hi)) ?_
     obtain ⟨h0, rfl⟩ := of_ite_some hp
     simp only [h0, ↓reduceIte]
     exact Ev.some _))
   (Ev.one (fun k => by simp only [qBC.l0]; rw [if_neg (by omega)]))
  have e3 : first (fun i => if arcsE np ([t.f1, t.f2, t.f3].getD i []) = 0 then none else some (arcsE np ([t.f1, t.f2, t.f3].getD i []))) 0 3 = if arcsE np t.f1 ≠ 0 then arcsE np t.f1 else if arcsE np t.f2 ≠ 0 then arcsE np t.f2 else arcsE np t.f3 := by
   unfold first firstOr firstOr firstOr firstOr
   simp only [List.getD_cons_zero, List.getD_cons_succ]
   by_cases h1 : arcsE np t.f1 = 0
   ·by_cases h2 : arcsE np t.f2 = 0
    ·by_cases h3 : arcsE np t.f3 = 0 <;> simp [h1, h2, h3]
    ·simp [h1, h2]
   ·simp [h1]
  rw [← e3]
  exact h
def nmE (ns : List ByteArray) (s : ByteArray) : Int := if nameB s = true then (if (ns.any fun o => o.toList == s.toList) = true then 6 else 0) else 5
def plR (ps : List Pla) (i : Nat) : Int := if nmE ((ps.take i).map (·.f0)) (ps.getD i zP).f0 ≠ 0 then nmE ((ps.take i).map (·.f0)) (ps.getD i zP).f0 else placeE (ps.getD i zP).f1 (ps.getD i zP).f2
def trR (ps : List Pla) (ts : List Tra) (i : Nat) : Int := if nmE (ps.map (·.f0) ++ (ts.take i).map (·.f0)) (ts.getD i zT).f0 ≠ 0 then nmE (ps.map (·.f0) ++ (ts.take i).map (·.f0)) (ts.getD i zT).f0 else transE (ps.length : Int) (ts.getD i zT)
def pF (ps : List Pla) (i : Nat) : Option (Int × Int) := if plR ps i = 0 then none else some (plR ps i, (i : Int))
def tF (ps : List Pla) (ts : List Tra) (i : Nat) : Option (Int × Int) := if trR ps ts i = 0 then none else some (trR ps ts i, (ps.length : Int) + (i : Int))
def checkS (nm : ByteArray) (ps : List Pla) (ts : List Tra) : Int × Int :=
 if nameB nm = true then (if (ps.length : Int) < 1 ∨ (24 : Int) < (ps.length : Int) ∨ (24 : Int) < (ts.length : Int) then (2, 0) else first (pF ps) (first (tF ps ts) (0, 0) ts.length) ps.length) else (5, 0)
def validS (nm : ByteArray) (ps : List Pla) (ts : List Tra) : Bool := (checkS nm ps ts).1 == 0
def Thin (ts : List Tra) : Prop := ∀ t ∈ ts, ThinT t
theorem Thin.at {ts : List Tra} (h : Thin ts) {i : Nat} (hi : i < ts.length) : ThinT (ts.getD i zT) := h _ (getD_mem ts zT hi)
theorem addM_ev {ns : List ByteArray} {s : ByteArray} (h : ns.length < 1000000) : addM ns s = some (nmE ns s, if nmE ns s = 0 then ns ++ [s] else ns) := by
 unfold addM nmE
 by_cases h1 : nameB s = true
 ·by_cases h2 : (ns.any fun o => o.toList == s.toList) = true
  ·simp [h1, h2]
  ·rw [if_pos h1, if_neg h2, if_pos h, if_pos h1, if_neg h2]; simp
 ·simp [h1]
theorem check_ts {ps : List Pla} {ts : List Tra} (hp : ps.length ≤ 24) (ht : ts.length ≤ 24) (hT : Thin ts) : Ev (fun k => qBD.l1 k ps ts (ps.map (·.f0)) 0) (first (tF ps ts) (0, 0) ts.length) := by
 have hlen : ∀ i, i ≤ ts.length → (ps.map (·.f0) ++ (ts.take i).map (·.f0)).length < 1000000 := fun i hi => by simp only [List.length_append, List.length_map, List.length_take]; omega
 have stp : ∀ i, i < ts.length → ∀ k, qBD.l1 (k + 1) ps ts (ps.map (·.f0) ++ (ts.take i).map (·.f0)) (i : Int) = if nmE (ps.map (·.f0) ++ (ts.take i).map (·.f0)) (ts.getD i zT).f0 = 0 then ((qBC.f k (ts.getD i zT).f0 (ts.getD i zT).f1 (ts.getD i zT).f2 (ts.getD i zT).f3 (ts.getD i zT).f4 (ps.length : Int)).bind fun e => if e = 0 then qBD.l1 k ps ts (ps.map (·.f0) ++ (ts.take (i + 1)).map (·.f0)) ((i + 1 : Nat) : Int) else some (e, (ps.length : Int) + (i : Int))) else some (nmE (ps.map (·.f0) ++ (ts.take i).map (·.f0)) (ts.getD i zT).f0, (ps.length : Int) + (i : Int)) := fun i hi k => by
  simp only [qBD.l1]
  rw [if_pos (by omega), if_pos (by omega), rdT, addM_ev (hlen i (by omega)), wrap_up hi (by omega), wrap_ok (x := (ps.length : Int) + (i : Int)) (by omega) (by omega)]
  simp only [Option.bind_some]
  by_cases h0 : nmE (ps.map (·.f0) ++ (ts.take i).map (·.f0)) (ts.getD i zT).f0 = 0
  ·rw [if_pos h0, if_pos h0, if_pos h0, List.append_assoc, ← take_map_succ ts (fun t => t.f0) zT hi]
  ·rw [if_neg h0, if_neg h0]
 have h := Ev_first (L := fun k i => qBD.l1 k ps ts (ps.map (·.f0) ++ (ts.take i).map (·.f0)) (i : Int)) (n := ts.length) (tF ps ts) (e := ((0 : Int), (0 : Int)))
  (fun i hi hf r hr => Ev.step (stp i hi) (by
   have hz : trR ps ts i = 0 := of_ite_none hf
   by_cases h0 : nmE (ps.map (·.f0) ++ (ts.take i).map (·.f0)) (ts.getD i zT).f0 = 0
   ·unfold trR at hz
    rw [if_neg (by simpa using h0)] at hz
    simp only [h0, ↓reduceIte]
    refine Ev.bind (checkTrans_ev _ _ (hT.at hi)) ?_
    simp only [hz, ↓reduceIte]
    exact hr
   ·unfold trR at hz
    rw [if_pos h0] at hz
    exact absurd hz h0))
  (fun i r hi hf => Ev.step (stp i hi) (by
   obtain ⟨hz, rfl⟩ := of_ite_some hf
   by_cases h0 : nmE (ps.map (·.f0) ++ (ts.take i).map (·.f0)) (ts.getD i zT).f0 = 0
   ·have e : trR ps ts i = transE (ps.length : Int) (ts.getD i zT) := by unfold trR; rw [if_neg (by simpa using h0)]
    rw [e] at hz ⊢
    simp only [h0, ↓reduceIte]
    refine Ev.bind (checkTrans_ev _ _ (hT.at hi)) ?_
    simp only [hz, ↓reduceIte]
    exact Ev.some _
   ·have e : trR ps ts i = nmE (ps.map (·.f0) ++ (ts.take i).map (·.f0)) (ts.getD i zT).f0 := by unfold trR; rw [if_pos h0]
    rw [e]
    simp only [h0, ↓reduceIte]
    exact Ev.some _))
  (Ev.one (fun k => by simp only [qBD.l1]; rw [if_neg (by omega)]))
 simpa using h
theorem check_ps {ps : List Pla} {ts : List Tra} (hp : ps.length ≤ 24) (ht : ts.length ≤ 24) (hT : Thin ts) : Ev (fun k => qBD.l0 k ps ts [] 0) (first (pF ps) (first (tF ps ts) (0, 0) ts.length) ps.length) := by
 have hlen : ∀ i, i ≤ ps.length → ((ps.take i).map (·.f0)).length < 1000000 := fun i hi => by simp only [List.length_map, List.length_take]; omega
 have stp : ∀ i, i < ps.length → ∀ k, qBD.l0 (k + 1) ps ts ((ps.take i).map (·.f0)) (i : Int) = if nmE ((ps.take i).map (·.f0)) (ps.getD i zP).f0 = 0 then (if placeE (ps.getD i zP).f1 (ps.getD i zP).f2 = 0 then qBD.l0 k ps ts ((ps.take (i + 1)).map (·.f0)) ((i + 1 : Nat) : Int) else some (placeE (ps.getD i zP).f1 (ps.getD i zP).f2, (i : Int))) else some (nmE ((ps.take i).map (·.f0)) (ps.getD i zP).f0, (i : Int)) := fun i hi k => by
  simp only [qBD.l0]
  rw [if_pos (by omega), if_pos (by omega), rdP, addM_ev (hlen i (by omega)), wrap_up hi (by omega)]
  simp only [Option.bind_some, net_checkPlace.f]
  by_cases h0 : nmE ((ps.take i).map (·.f0)) (ps.getD i zP).f0 = 0
  ·rw [if_pos h0, if_pos h0, if_pos h0, ← take_map_succ ps (fun t => t.f0) zP hi]
  ·rw [if_neg h0, if_neg h0]
 have h := Ev_first (L := fun k i => qBD.l0 k ps ts ((ps.take i).map (·.f0)) (i : Int)) (n := ps.length) (pF ps) (e := first (tF ps ts) (0, 0) ts.length)
  (fun i hi hf r hr => Ev.step (stp i hi) (by
   have hz : plR ps i = 0 := of_ite_none hf
   by_cases h0 : nmE ((ps.take i).map (·.f0)) (ps.getD i zP).f0 = 0
   ·unfold plR at hz
    rw [if_neg (by simpa using h0)] at hz
    simp only [h0, hz, ↓reduceIte]
    exact hr
   ·unfold plR at hz
    rw [if_pos h0] at hz
    exact absurd hz h0))
  (fun i r hi hf => Ev.step (stp i hi) (by
   obtain ⟨hz, rfl⟩ := of_ite_some hf
   by_cases h0 : nmE ((ps.take i).map (·.f0)) (ps.getD i zP).f0 = 0
   ·have e : plR ps i = placeE (ps.getD i zP).f1 (ps.getD i zP).f2 := by unfold plR; rw [if_neg (by simpa using h0)]
    rw [e] at hz ⊢
    simp only [h0, hz, ↓reduceIte]
    exact Ev.some _
   ·have e : plR ps i = nmE ((ps.take i).map (·.f0)) (ps.getD i zP).f0 := by unfold plR; rw [if_pos h0]
    rw [e]
    simp only [h0, ↓reduceIte]
    exact Ev.some _))
  (by
   refine Ev.step (f := fun k => qBD.l1 k ps ts (ps.map (·.f0)) 0) (fun k => ?_) (check_ts hp ht hT)
   simp only [qBD.l0]
   rw [if_neg (by omega), List.take_length])
 simpa using h
theorem check_ev (nm : ByteArray) {ps : List Pla} {ts : List Tra} (hT : Thin ts) : Ev (fun k => qBD.f k nm ps ts) (checkS nm ps ts) := by
 unfold qBD.f checkS
 by_cases h1 : nameB nm = true
 ·by_cases h2 : (ps.length : Int) < 1 ∨ (24 : Int) < (ps.length : Int) ∨ (24 : Int) < (ts.length : Int)
  ·simp only [h1, h2, ↓reduceIte]; exact Ev.some _
  ·simp only [h1, h2, ↓reduceIte]
   exact check_ps (by omega) (by omega) hT
 ·simp only [h1]; exact Ev.some _
theorem valid_ev (nm : ByteArray) {ps : List Pla} {ts : List Tra} (hT : Thin ts) : Ev (fun k => net_valid.f k nm ps ts) (validS nm ps ts) := by
 unfold net_valid.f
 exact Ev.bind (check_ev nm hT) (Ev.some _)
def weightS (l : List Ac) (p : Int) : Int := first (fun i => if (l.getD i zA).f0 = p then some (l.getD i zA).f1 else none) 0 l.length
def initialS (v : Bool) (ps : List Pla) : List Int := if v = true then ps.map (·.f1) else []
def plainP (ps : List Pla) (e : Bool) : Bool := first (fun i => if (ps.getD i zP).f2 ≠ 0 then some false else none) e ps.length
def plainT (ts : List Tra) (e : Bool) : Bool := first (fun i => if ((ts.getD i zT).f3.length : Int) > 0 ∨ (ts.getD i zT).f4 ≠ 0 then some false else none) e ts.length
def plainS (v : Bool) (ps : List Pla) (ts : List Tra) : Bool := plainT ts (plainP ps v)
theorem plainP_eq (ps : List Pla) (e : Bool) : plainP ps e = if ∃ i, i < ps.length ∧ (ps.getD i zP).f2 ≠ 0 then false else e := first_any _ _ _ _
theorem plainT_eq (ts : List Tra) (e : Bool) : plainT ts e = if ∃ i, i < ts.length ∧ (((ts.getD i zT).f3.length : Int) > 0 ∨ (ts.getD i zT).f4 ≠ 0) then false else e := first_any _ _ _ _
theorem plain_swap (v : Bool) (ps : List Pla) (ts : List Tra) : plainS v ps ts = if v = true then plainP ps (plainT ts true) else false := by
 unfold plainS
 rw [plainT_eq, plainP_eq, plainP_eq, plainT_eq]
 cases v <;> by_cases c1 : ∃ i, i < ps.length ∧ (ps.getD i zP).f2 ≠ 0 <;> by_cases c2 : ∃ i, i < ts.length ∧ (((ts.getD i zT).f3.length : Int) > 0 ∨ (ts.getD i zT).f4 ≠ 0) <;> simp only [c1, c2, if_true, if_false, Bool.false_eq_true, ite_self]
theorem ext_getD {α : Type} (z : α) {a b : List α} (hl : a.length = b.length) (h : ∀ i, i < a.length → a.getD i z = b.getD i z) : a = b := by
 refine List.ext_getElem hl (fun i h1 h2 => ?_)
 have := h i h1
 rw [List.getD_eq_getElem?_getD, List.getD_eq_getElem?_getD, List.getElem?_eq_getElem h1, List.getElem?_eq_getElem h2] at this
 exact this
theorem first_bool {n : Nat} (c : Nat → Bool) : first (fun i => if c i = true then some false else none) true n = true ↔ ∀ i, i < n → c i = false := by
 rw [first_any (fun i => c i = true)]
 constructor
 ·intro h i hi
  refine Bool.eq_false_iff.2 fun hc => ?_
  rw [if_pos ⟨i, hi, hc⟩] at h
  cases h
 ·intro h
  rw [if_neg]
  rintro ⟨i, hi, hc⟩
  rw [h i hi] at hc
  cases hc
structure ValidN (nm : ByteArray) (ps : List Pla) (ts : List Tra) : Prop where
 n : nameB nm = true
 p0 : 1 ≤ ps.length
 p : ps.length ≤ 24
 t : ts.length ≤ 24
 pl : ∀ i, i < ps.length → plR ps i = 0
 tr : ∀ i, i < ts.length → trR ps ts i = 0
theorem validS_iff {nm : ByteArray} {ps : List Pla} {ts : List Tra} : validS nm ps ts = true ↔ ValidN nm ps ts := by
 unfold validS checkS
 constructor
 ·intro h
  by_cases h1 : nameB nm = true
  ·rw [if_pos h1] at h
   by_cases h2 : (ps.length : Int) < 1 ∨ (24 : Int) < (ps.length : Int) ∨ (24 : Int) < (ts.length : Int)
   ·rw [if_pos h2] at h; simp at h
   ·rw [if_neg h2] at h
    rcases qCP (pF ps) (first (tF ps ts) (0, 0) ts.length) ps.length with ⟨a1, a2⟩ | ⟨j, a1, a2, _⟩
    ·rw [a1] at h
     rcases qCP (tF ps ts) ((0 : Int), (0 : Int)) ts.length with ⟨b1, b2⟩ | ⟨j, b1, b2, _⟩
     ·exact ⟨h1, by omega, by omega, by omega, fun i hi => of_ite_none (a2 i hi), fun i hi => of_ite_none (b2 i hi)⟩
     ·obtain ⟨c1, c2⟩ := of_ite_some b2
      rw [← c2] at h
      exact absurd (beq_iff_eq.1 h) c1
    ·obtain ⟨c1, c2⟩ := of_ite_some a2
     rw [← c2] at h
     exact absurd (beq_iff_eq.1 h) c1
  ·rw [if_neg h1] at h; simp at h
 ·rintro ⟨h1, h2, h3, h4, h5, h6⟩
  rw [if_pos h1, if_neg (by omega), first_all (fun j hj => by unfold pF; rw [if_pos (h5 j hj)]), first_all (fun j hj => by unfold tF; rw [if_pos (h6 j hj)])]
  rfl
section
variable {nm : ByteArray} {ps : List Pla} {ts : List Tra} (h : ValidN nm ps ts)
include h
theorem ValidN.plName {i : Nat} (hi : i < ps.length) : nmE ((ps.take i).map (·.f0)) (ps.getD i zP).f0 = 0 ∧ placeE (ps.getD i zP).f1 (ps.getD i zP).f2 = 0 := by
 have := h.pl i hi
 unfold plR at this
 by_cases c : nmE ((ps.take i).map (·.f0)) (ps.getD i zP).f0 = 0
 · rw [if_neg (by simpa using c)] at this; exact ⟨c, this⟩
 · rw [if_pos c] at this; exact absurd this c
theorem ValidN.trName {i : Nat} (hi : i < ts.length) : nmE (ps.map (·.f0) ++ (ts.take i).map (·.f0)) (ts.getD i zT).f0 = 0 ∧ transE (ps.length : Int) (ts.getD i zT) = 0 := by
 have := h.tr i hi
 unfold trR at this
 by_cases c : nmE (ps.map (·.f0) ++ (ts.take i).map (·.f0)) (ts.getD i zT).f0 = 0
 · rw [if_neg (by simpa using c)] at this; exact ⟨c, this⟩
 · rw [if_pos c] at this; exact absurd this c
theorem ValidN.arcs {i : Nat} (hi : i < ts.length) : (0 ≤ (ts.getD i zT).f4 ∧ (ts.getD i zT).f4 ≤ 9) ∧ arcsE (ps.length : Int) (ts.getD i zT).f1 = 0 ∧ arcsE (ps.length : Int) (ts.getD i zT).f2 = 0 ∧ arcsE (ps.length : Int) (ts.getD i zT).f3 = 0 := by
 have := (h.trName hi).2
 unfold transE at this
 by_cases c : (ts.getD i zT).f4 < 0 ∨ (ts.getD i zT).f4 > 9
 ·rw [if_pos c] at this; exact absurd this (by decide)
 ·rw [if_neg c] at this
  by_cases c1 : arcsE (ps.length : Int) (ts.getD i zT).f1 = 0
  ·rw [if_neg (by simpa using c1)] at this
   by_cases c2 : arcsE (ps.length : Int) (ts.getD i zT).f2 = 0
   ·rw [if_neg (by simpa using c2)] at this; exact ⟨by omega, c1, c2, this⟩
   ·rw [if_pos c2] at this; exact absurd this c2
  ·rw [if_pos c1] at this; exact absurd this c1
end
theorem arcE_none {np : Int} {l : List Ac} {i : Nat} (h : arcE np l i = none) : 0 ≤ (l.getD i zA).f0 ∧ (l.getD i zA).f0 < np ∧ (0 < i → (l.getD (i - 1) zA).f0 < (l.getD i zA).f0) ∧ 1 ≤ (l.getD i zA).f1 ∧ (l.getD i zA).f1 ≤ 99 := by
 unfold arcE at h
 by_cases c1 : (l.getD i zA).f0 < 0 ∨ (l.getD i zA).f0 ≥ np
 ·rw [if_pos c1] at h; cases h
 ·rw [if_neg c1] at h
  by_cases c2 : 0 < i ∧ (l.getD (i - 1) zA).f0 ≥ (l.getD i zA).f0
  ·rw [if_pos c2] at h; cases h
  ·rw [if_neg c2] at h
   by_cases c3 : (l.getD i zA).f1 < 1 ∨ (l.getD i zA).f1 > 99
   ·rw [if_pos c3] at h; cases h
   ·exact ⟨by omega, by omega, fun hi => Int.not_le.1 fun hc => c2 ⟨hi, hc⟩, by omega, by omega⟩
theorem arcE_some {np : Int} {l : List Ac} {i : Nat} {r : Int} (h : arcE np l i = some r) : r ≠ 0 := by
 unfold arcE at h
 by_cases c1 : (l.getD i zA).f0 < 0 ∨ (l.getD i zA).f0 ≥ np
 ·rw [if_pos c1] at h; cases h; decide
 ·rw [if_neg c1] at h
  by_cases c2 : 0 < i ∧ (l.getD (i - 1) zA).f0 ≥ (l.getD i zA).f0
  ·rw [if_pos c2] at h; cases h; decide
  ·rw [if_neg c2] at h
   by_cases c3 : (l.getD i zA).f1 < 1 ∨ (l.getD i zA).f1 > 99
   ·rw [if_pos c3] at h; cases h; decide
   ·rw [if_neg c3] at h; cases h
theorem arcsE_zero {np : Int} {l : List Ac} (h : arcsE np l = 0) : ∀ i, i < l.length → 0 ≤ (l.getD i zA).f0 ∧ (l.getD i zA).f0 < np ∧ (0 < i → (l.getD (i - 1) zA).f0 < (l.getD i zA).f0) ∧ 1 ≤ (l.getD i zA).f1 ∧ (l.getD i zA).f1 ≤ 99 := by
 intro i hi
 unfold arcsE at h
 rcases qCP (arcE np l) 0 l.length with ⟨_, h2⟩ | ⟨j, _, h2, _⟩
 ·exact arcE_none (h2 i hi)
 ·rw [h] at h2
  exact absurd rfl (arcE_some h2)
theorem arcs_lt {np : Int} {l : List Ac} (h : arcsE np l = 0) {i j : Nat} (hij : i < j) (hj : j < l.length) : (l.getD i zA).f0 < (l.getD j zA).f0 := by
 obtain ⟨d, rfl⟩ : ∃ d, j = i + 1 + d := ⟨j - (i + 1), by omega⟩
 induction d with
 | zero => have := (arcsE_zero h (i + 1) hj).2.2.1 (by omega); simpa using this
 | succ d ih =>
  have h1 := ih (by omega) (by omega)
  have h2 := (arcsE_zero h (i + 1 + (d + 1)) hj).2.2.1 (by omega)
  rw [show i + 1 + (d + 1) - 1 = i + 1 + d by omega] at h2
  omega
theorem weight_nn {np : Int} {l : List Ac} (h : arcsE np l = 0) (p : Int) : 0 ≤ weightS l p ∧ weightS l p ≤ 99 := by
 unfold weightS
 rcases qCP (fun i => if (l.getD i zA).f0 = p then some (l.getD i zA).f1 else none) 0 l.length with ⟨h1, h2⟩ | ⟨j, h1, h2, _⟩
 ·rw [h1]; decide
 ·by_cases c : (l.getD j zA).f0 = p
  ·simp only [c, if_true] at h2
   have := arcsE_zero h j h1
   rw [← Option.some.inj h2]; omega
  ·simp only [c, if_false] at h2; cases h2
def okN (k : Int) : Bool := if k = -1 then true else if k < 0 ∨ k > 1048576 then false else true
theorem okN_iff {k : Int} : okN k = true ↔ k = -1 ∨ (0 ≤ k ∧ k ≤ 1048576) := by
 unfold okN
 by_cases h : k = -1
 ·rw [if_pos h]; exact ⟨fun _ => Or.inl h, fun _ => rfl⟩
 ·rw [if_neg h]
  by_cases c : k < 0 ∨ k > 1048576
  ·rw [if_pos c]; exact ⟨fun h => (by cases h), fun h2 => by omega⟩
  ·rw [if_neg c]; exact ⟨fun _ => by omega, fun _ => rfl⟩
def moreS (a b : Int) : Bool := if a = -1 ∨ b = -1 then decide (a = -1 ∧ b ≠ -1) else decide (a > b)
theorem moreS_self (a : Int) : moreS a a = false := by
 unfold moreS
 by_cases h : a = -1
 · rw [if_pos (Or.inl h)]; exact dec_f (fun h2 => h2.2 h)
 · rw [if_neg (by omega)]; exact dec_f (by omega)
def le1 (a b : Int) : Prop := b = -1 ∨ (a ≠ -1 ∧ b ≠ -1 ∧ a ≤ b)
theorem moreS_iff {a b : Int} : moreS a b = false ↔ le1 a b := by
 unfold moreS le1
 by_cases h : a = -1 ∨ b = -1
 ·rw [if_pos h]
  by_cases c : a = -1 ∧ b ≠ -1
  ·rw [dec_t c]; exact ⟨fun h => (by cases h), fun h2 => by omega⟩
  ·rw [dec_f c]; exact ⟨fun _ => by omega, fun _ => rfl⟩
 ·rw [if_neg h]
  by_cases c : a > b
  ·rw [dec_t c]; exact ⟨fun h => (by cases h), fun h2 => by omega⟩
  ·rw [dec_f c]; exact ⟨fun _ => by omega, fun _ => rfl⟩
structure Om (n : Nat) (m : List Int) : Prop where
 len : m.length = n
 ok : ∀ i, i < n → okN (m.getD i 0) = true
theorem Om.cases {n : Nat} {m : List Int} (h : Om n m) {i : Nat} (hi : i < n) : m.getD i 0 = -1 ∨ (0 ≤ m.getD i 0 ∧ m.getD i 0 ≤ 1048576) := okN_iff.1 (h.ok i hi)
def omS (m : List Int) (n : Int) : Bool := if (m.length : Int) = n then first (fun i => if okN (m.getD i 0) = true then none else some false) true m.length else false
theorem omS_iff {m : List Int} {n : Nat} : omS m (n : Int) = true ↔ Om n m := by
 unfold omS
 by_cases h : (m.length : Int) = (n : Int)
 ·have hl : m.length = n := by omega
  rw [if_pos h]
  rcases qCP (fun i => if okN (m.getD i 0) = true then none else some false) true m.length with ⟨h1, h2⟩ | ⟨j, h1, h2, _⟩
  ·rw [h1]
   exact ⟨fun _ => ⟨hl, fun i hi => of_ite_none (h2 i (by omega))⟩, fun _ => rfl⟩
  ·obtain ⟨c1, c2⟩ := of_ite_some h2
   rw [← c2]
   exact ⟨fun h => (by cases h), fun h3 => absurd (h3.ok j (by omega)) c1⟩
 ·rw [if_neg h]
  exact ⟨fun h => (by cases h), fun h3 => absurd (by rw [h3.len]) h⟩
theorem omS_self {m : List Int} : omS m (m.length : Int) = true ↔ Om m.length m := omS_iff
def Le (a b : List Int) : Prop := ∀ i, i < a.length → le1 (a.getD i 0) (b.getD i 0)
def leqS (a b : List Int) : Bool := if omS a (b.length : Int) = true then if omS b (b.length : Int) = true then first (fun i => if moreS (a.getD i 0) (b.getD i 0) = true then some false else none) true a.length else false else false
theorem leqS_iff {a b : List Int} : leqS a b = true ↔ Om b.length a ∧ Om b.length b ∧ Le a b := by
 unfold leqS
 by_cases h1 : omS a (b.length : Int) = true
 ·rw [if_pos h1]
  by_cases h2 : omS b (b.length : Int) = true
  ·rw [if_pos h2, first_bool]
   have e1 := omS_iff.1 h1
   have e2 := omS_iff.1 h2
   exact ⟨fun h => ⟨e1, e2, fun i hi => moreS_iff.1 (h i hi)⟩, fun h i hi => moreS_iff.2 (h.2.2 i hi)⟩
  ·rw [if_neg h2]
   exact ⟨fun h => (by cases h), fun h => absurd (omS_iff.2 h.2.1) h2⟩
 ·rw [if_neg h1]
  exact ⟨fun h => (by cases h), fun h => absurd (omS_iff.2 h.1) h1⟩
def accS (low high : List Int) : List Int := if leqS low high = true then mr high.length (fun i => if moreS (high.getD i 0) (low.getD i 0) = true then -1 else high.getD i 0) else high
theorem accS_len (low high : List Int) : (accS low high).length = high.length := by
 unfold accS
 by_cases h : leqS low high = true
 · rw [if_pos h, mr_len]
 · rw [if_neg h]
theorem accS_get (low high : List Int) {i : Nat} (hi : i < high.length) : (accS low high).getD i 0 = if leqS low high = true ∧ moreS (high.getD i 0) (low.getD i 0) = true then -1 else high.getD i 0 := by
 unfold accS
 by_cases h : leqS low high = true
 ·rw [if_pos h, mr_get _ _ hi]
  by_cases c : moreS (high.getD i 0) (low.getD i 0) = true
  ·rw [if_pos c, if_pos ⟨h, c⟩]
  ·rw [if_neg c, if_neg (fun x => c x.2)]
 ·rw [if_neg h, if_neg (fun x => h x.1)]
theorem accS_or (low high : List Int) {i : Nat} (hi : i < high.length) : (accS low high).getD i 0 = -1 ∨ (accS low high).getD i 0 = high.getD i 0 := by
 rw [accS_get low high hi]
 by_cases c : leqS low high = true ∧ moreS (high.getD i 0) (low.getD i 0) = true
 · rw [if_pos c]; exact Or.inl rfl
 · rw [if_neg c]; exact Or.inr rfl
theorem accS_om {n : Nat} (low : List Int) {high : List Int} (h : Om n high) : Om n (accS low high) := by
 refine ⟨by rw [accS_len, h.len], fun i hi => ?_⟩
 rcases accS_or low high (i := i) (by rw [h.len]; exact hi) with e | e
 · rw [e]; rfl
 · rw [e]; exact h.ok i hi
theorem le1_refl (a : Int) : le1 a a := moreS_iff.1 (moreS_self a)
theorem le1_trans {a b c : Int} (h : le1 a b) (k : le1 b c) : le1 a c := by unfold le1 at *; omega
theorem Le.refl (a : List Int) : Le a a := fun _ _ => le1_refl _
theorem Le.trans {a b c : List Int} (h : Le a b) (k : Le b c) (hl : a.length = b.length) : Le a c := fun i hi => le1_trans (h i hi) (k i (by omega))
theorem accS_ge (low high : List Int) : Le high (accS low high) := fun i hi => by
 rcases accS_or low high hi with e | e
 · rw [e]; exact Or.inl rfl
 · rw [e]; exact le1_refl _
def Fin (m : List Int) : Prop := ∀ i, i < m.length → m.getD i 0 ≠ -1
theorem ext0 {a b : List Int} (hl : a.length = b.length) (h : ∀ i, i < a.length → a.getD i 0 = b.getD i 0) : a = b := ext_getD 0 hl h
theorem accS_cases (low high : List Int) : accS low high = high ∨ (¬ Fin (accS low high) ∧ leqS low high = true ∧ ∃ i, i < high.length ∧ moreS (high.getD i 0) (low.getD i 0) = true) := by
 by_cases h : leqS low high = true
 ·by_cases c : ∃ i, i < high.length ∧ moreS (high.getD i 0) (low.getD i 0) = true
  ·obtain ⟨i, hi, hc⟩ := c
   refine Or.inr ⟨fun hf => hf i (by rw [accS_len]; exact hi) ?_, h, i, hi, hc⟩
   rw [accS_get low high hi, if_pos ⟨h, hc⟩]
  ·refine Or.inl (ext0 (accS_len _ _) (fun i hi => ?_))
   rw [accS_len] at hi
   rw [accS_get low high hi, if_neg (fun x => c ⟨i, hi, x.2⟩)]
 ·left; unfold accS; rw [if_neg h]
def Can (t : Tra) (m : List Int) : Prop := ∀ p, p < m.length → m.getD p 0 = -1 ∨ weightS t.f1 (p : Int) ≤ m.getD p 0
def canS (t : Tra) (m : List Int) : Bool := first (fun p => if m.getD p 0 ≠ -1 ∧ m.getD p 0 < weightS t.f1 (p : Int) then some false else none) true m.length
theorem canS_iff {t : Tra} {m : List Int} : canS t m = true ↔ Can t m := by
 unfold canS
 rw [first_any]
 constructor
 ·intro h p hp
  by_cases c : m.getD p 0 = -1 ∨ weightS t.f1 (p : Int) ≤ m.getD p 0
  ·exact c
  ·rw [if_pos ⟨p, hp, by omega⟩] at h; cases h
 ·intro h
  rw [if_neg]
  rintro ⟨p, hp, h2⟩
  have := h p hp
  omega
def movS (t : Tra) (m : List Int) : List Int := mr m.length (fun p => if m.getD p 0 = -1 then -1 else m.getD p 0 - weightS t.f1 (p : Int) + weightS t.f2 (p : Int))
theorem movS_len (t : Tra) (m : List Int) : (movS t m).length = m.length := mr_len _ _
theorem movS_get (t : Tra) (m : List Int) {p : Nat} (hp : p < m.length) : (movS t m).getD p 0 = if m.getD p 0 = -1 then -1 else m.getD p 0 - weightS t.f1 (p : Int) + weightS t.f2 (p : Int) := mr_get _ _ hp
def Fits (m : List Int) : Prop := ∀ p, p < m.length → m.getD p 0 ≤ 1048576
def overS (m : List Int) : Bool := first (fun p => if m.getD p 0 > 1048576 then some true else none) false m.length
theorem overS_iff {m : List Int} : overS m = false ↔ Fits m := by
 unfold overS
 rw [first_any]
 constructor
 ·intro h p hp
  by_cases c : m.getD p 0 > 1048576
  ·rw [if_pos ⟨p, hp, c⟩] at h; cases h
  ·omega
 ·intro h
  rw [if_neg]
  rintro ⟨p, hp, h2⟩
  have := h p hp
  omega
def fitsS (v : Bool) (ps : List Pla) (ts : List Tra) (m : List Int) : Bool := if plainS v ps ts = true then omS m (ps.length : Int) else false
def enabS (v : Bool) (ps : List Pla) (ts : List Tra) (m : List Int) : List Int := if fitsS v ps ts m = true then ((List.range ts.length).filter (fun t => canS (ts.getD t zT) m)).map (fun t : Nat => (t : Int)) else []
def goS (t : Tra) (m : List Int) : List Int × Bool := if overS (movS t m) = true then ([], false) else (movS t m, true)
def fireS (v : Bool) (ps : List Pla) (ts : List Tra) (m : List Int) (t : Int) : List Int × Bool :=
 if fitsS v ps ts m = true then if t < 0 ∨ t ≥ (ts.length : Int) then ([], false) else if canS (ts.getD t.toNat zT) m = true then goS (ts.getD t.toNat zT) m else ([], false) else ([], false)
theorem movS_om {np : Int} {t : Tra} {n : Nat} {m : List Int} (h : Om n m) (h1 : arcsE np t.f1 = 0) (h2 : arcsE np t.f2 = 0) (hc : Can t m) (hf : Fits (movS t m)) : Om n (movS t m) := by
 refine ⟨by rw [movS_len, h.len], fun i hi => okN_iff.2 ?_⟩
 have hi2 : i < m.length := by rw [h.len]; exact hi
 have f := hf i (by rw [movS_len]; exact hi2)
 rw [movS_get t m hi2] at f ⊢
 have w2 := weight_nn h2 (i : Int)
 rcases hc i hi2 with e | e
 ·rw [if_pos e]; exact Or.inl rfl
 ·by_cases c : m.getD i 0 = -1
  ·rw [if_pos c]; exact Or.inl rfl
  ·rw [if_neg c] at f ⊢; right; omega
theorem Can.mono {t : Tra} {a b : List Int} (h : Can t a) (hl : a.length = b.length) (ha : Fin a) (k : Le a b) : Can t b := fun p hp => by
 have h1 := h p (by omega)
 have h2 := k p (by omega)
 have h3 := ha p (by omega)
 unfold le1 at h2
 omega
theorem movS_mono {t : Tra} {a b : List Int} (hl : a.length = b.length) (hc : Can t a) {n1 : Int} (h1 : arcsE n1 t.f1 = 0) (h2 : arcsE n1 t.f2 = 0) (k : Le a b) : Le (movS t a) (movS t b) := fun p hp => by
 rw [movS_len] at hp
 rw [movS_get t a hp, movS_get t b (by omega)]
 have h := k p hp
 have c := hc p hp
 have w1 := weight_nn h1 (p : Int)
 have w2 := weight_nn h2 (p : Int)
 unfold le1 at h ⊢
 by_cases ea : a.getD p 0 = -1
 ·rw [if_pos ea]
  by_cases eb : b.getD p 0 = -1
  ·rw [if_pos eb]; exact Or.inl rfl
  ·omega
 ·rw [if_neg ea]
  by_cases eb : b.getD p 0 = -1
  ·rw [if_pos eb]; exact Or.inl rfl
  ·rw [if_neg eb]; right; omega
def ltB (a b : List Int) : Bool := first (fun i => if a.getD i 0 ≠ b.getD i 0 then some (moreS (b.getD i 0) (a.getD i 0)) else none) false a.length
def Lt (a b : List Int) : Prop := ∃ i, i < a.length ∧ (∀ j, j < i → a.getD j 0 = b.getD j 0) ∧ moreS (b.getD i 0) (a.getD i 0) = true
theorem ltB_iff {a b : List Int} : ltB a b = true ↔ Lt a b := by
 unfold ltB
 rcases qCP (fun i => if a.getD i 0 ≠ b.getD i 0 then some (moreS (b.getD i 0) (a.getD i 0)) else none) false a.length with ⟨h1, h2⟩ | ⟨j, h1, h2, h3⟩
 ·rw [h1]
  constructor
  ·intro h; cases h
  rintro ⟨i, h3, h4, h5⟩
  have e := h2 i h3
  by_cases c : a.getD i 0 = b.getD i 0
  ·rw [c, moreS_self] at h5; cases h5
  ·rw [if_pos c] at e; cases e
 ·have c : a.getD j 0 ≠ b.getD j 0 := fun c => by rw [if_neg (fun h => h c)] at h2; cases h2
  rw [if_pos c] at h2
  have eq : ∀ m, m < j → a.getD m 0 = b.getD m 0 := fun m hm => by
   have e := h3 m hm
   by_cases d : a.getD m 0 = b.getD m 0
   ·exact d
   ·rw [if_pos d] at e; cases e
  rw [← Option.some.inj h2]
  refine ⟨fun h => ⟨j, h1, eq, h⟩, fun ⟨i, h4, h5, h6⟩ => ?_⟩
  by_cases d : i = j
  ·subst d; exact h6
  ·by_cases g : i < j
   ·rw [eq i g, moreS_self] at h6; cases h6
   ·exact absurd (h5 j (by omega)) c
theorem more_iff {a b : Int} : moreS a b = true ↔ (a = -1 ∧ b ≠ -1) ∨ (a ≠ -1 ∧ b ≠ -1 ∧ b < a) := by
 unfold moreS
 by_cases h : a = -1 ∨ b = -1
 ·rw [if_pos h]
  exact ⟨fun x => Or.inl (of_decide_eq_true x), fun x => decide_eq_true (by omega)⟩
 ·rw [if_neg h]
  exact ⟨fun x => by have := of_decide_eq_true x; omega, fun x => decide_eq_true (by omega)⟩
theorem Lt.irrefl (a : List Int) : ¬ Lt a a := fun ⟨i, _, _, h⟩ => by rw [moreS_self] at h; cases h
theorem Lt.trans {a b c : List Int} (h : Lt a b) (k : Lt b c) (hl : a.length = b.length) : Lt a c := by
 obtain ⟨i, h1, h2, h3⟩ := h
 obtain ⟨j, k1, k2, k3⟩ := k
 rw [more_iff] at h3 k3
 by_cases c1 : i < j
 ·refine ⟨i, h1, fun m hm => by rw [h2 m hm, k2 m (by omega)], ?_⟩
  rw [← k2 i c1, more_iff]; exact h3
 ·by_cases c2 : j < i
  ·refine ⟨j, by omega, fun m hm => by rw [h2 m (by omega), k2 m hm], ?_⟩
   rw [h2 j c2, more_iff]; exact k3
  ·obtain rfl : i = j := by omega
   refine ⟨i, h1, fun m hm => by rw [h2 m hm, k2 m hm], ?_⟩
   rw [more_iff]; omega
theorem lt_or {a b : List Int} (hl : a.length = b.length) : Lt a b ∨ a = b ∨ Lt b a := by
 have go : ∀ n, n ≤ a.length → (∀ i, i < n → a.getD i 0 = b.getD i 0) ∨ Lt a b ∨ Lt b a := by
  intro n
  induction n with
  | zero => exact fun _ => Or.inl fun i hi => by omega
  | succ n ih =>
   intro hn
   rcases ih (by omega) with e | e
   ·by_cases c : a.getD n 0 = b.getD n 0
    ·refine Or.inl fun i hi => ?_
     by_cases d : i = n
     ·rw [d]; exact c
     ·exact e i (by omega)
    ·by_cases d : moreS (b.getD n 0) (a.getD n 0) = true
     ·exact Or.inr (Or.inl ⟨n, by omega, e, d⟩)
     ·refine Or.inr (Or.inr ⟨n, by omega, fun m hm => (e m hm).symm, ?_⟩)
      rw [more_iff] at d ⊢; omega
   ·exact Or.inr e
 rcases go a.length (Nat.le_refl _) with e | e | e
 ·exact Or.inr (Or.inl (ext0 hl e))
 ·exact Or.inl e
 ·exact Or.inr (Or.inr e)
def putS (m : List Int) : List (List Int) → List (List Int)
 | [] => [m]
 | x :: r => if ltB x m = true then x :: putS m r else if x = m then x :: r else m :: x :: r
theorem mem_putS {m y : List Int} : ∀ {l : List (List Int)}, y ∈ putS m l ↔ y = m ∨ y ∈ l
 | [] => by unfold putS; simp
 | x :: r => by
  unfold putS
  by_cases c : ltB x m = true
  ·rw [if_pos c, List.mem_cons, mem_putS, List.mem_cons]
   exact ⟨fun h => by rcases h with h | h | h <;> simp [h], fun h => by rcases h with h | h | h <;> simp [h]⟩
  ·rw [if_neg c]
   by_cases d : x = m
   ·rw [if_pos d]; subst d; simp
   ·rw [if_neg d, List.mem_cons]
def Sorted (n : Nat) (l : List (List Int)) : Prop := l.Pairwise Lt ∧ ∀ x ∈ l, x.length = n
theorem Sorted.put {n : Nat} {m : List Int} (hm : m.length = n) : ∀ {l : List (List Int)}, Sorted n l → Sorted n (putS m l)
 | [], h => ⟨by unfold putS; exact List.pairwise_singleton _ _, fun x hx => by unfold putS at hx; simp at hx; rw [hx]; exact hm⟩
 | x :: r, h => by
  have hr : Sorted n r := ⟨(List.pairwise_cons.1 h.1).2, fun y hy => h.2 y (List.mem_cons_of_mem _ hy)⟩
  have hx := h.2 x (List.mem_cons_self ..)
  have hxr := (List.pairwise_cons.1 h.1).1
  refine ⟨?_, fun y hy => ?_⟩
  ·unfold putS
   by_cases c : ltB x m = true
   ·rw [if_pos c]
    refine List.pairwise_cons.2 ⟨fun y hy => ?_, (hr.put hm).1⟩
    rcases mem_putS.1 hy with e | e
    ·rw [e]; exact ltB_iff.1 c
    ·exact hxr y e
   ·rw [if_neg c]
    by_cases d : x = m
    ·rw [if_pos d]; exact h.1
    ·rw [if_neg d]
     have hlt : Lt m x := by
      rcases lt_or (a := x) (b := m) (by rw [hx, hm]) with e | e | e
      ·exact absurd (ltB_iff.2 e) c
      ·exact absurd e d
      ·exact e
     refine List.pairwise_cons.2 ⟨fun y hy => ?_, h.1⟩
     rcases List.mem_cons.1 hy with e | e
     ·rw [e]; exact hlt
     ·exact hlt.trans (hxr y e) (by rw [hm, hx])
  ·rcases mem_putS.1 hy with e | e
   ·rw [e]; exact hm
   ·exact h.2 y e
def posS (m : List Int) (l : List (List Int)) : Nat := (l.takeWhile (fun x => ltB x m)).length
theorem posS_le (m : List Int) (l : List (List Int)) : posS m l ≤ l.length := (List.takeWhile_sublist _).length_le
theorem posS_cons (m x : List Int) (l : List (List Int)) : posS m (x :: l) = if ltB x m = true then posS m l + 1 else 0 := by
 unfold posS
 rw [List.takeWhile_cons]
 by_cases c : ltB x m = true
 · rw [if_pos c, if_pos c]; rfl
 · rw [if_neg c, if_neg c]; rfl
theorem posS_lt (m : List Int) : ∀ (l : List (List Int)) (j : Nat), j < posS m l → ltB (l.getD j []) m = true
 | [], j, h => by unfold posS at h; simp at h
 | x :: l, j, h => by
  rw [posS_cons] at h
  by_cases c : ltB x m = true
  ·rw [if_pos c] at h
   cases j with
   | zero => exact c
   | succ j => exact posS_lt m l j (by omega)
  ·rw [if_neg c] at h; omega
theorem posS_at (m : List Int) : ∀ (l : List (List Int)), posS m l < l.length → ltB (l.getD (posS m l) []) m = false
 | [], h => by simp at h
 | x :: l, h => by
  rw [posS_cons] at h ⊢
  by_cases c : ltB x m = true
  ·rw [if_pos c] at h ⊢
   exact posS_at m l (by simp at h; omega)
  ·rw [if_neg c]
   cases d : ltB x m with
   | true => exact absurd d c
   | false => exact d
theorem putS_pos (m : List Int) : ∀ (l : List (List Int)), putS m l = if posS m l < l.length ∧ l.getD (posS m l) [] = m then l else l.take (posS m l) ++ m :: l.drop (posS m l)
 | [] => by unfold putS posS; simp
 | x :: l => by
  unfold putS
  rw [posS_cons]
  by_cases c : ltB x m = true
  ·rw [if_pos c, if_pos c, putS_pos m l]
   by_cases d : posS m l < l.length ∧ l.getD (posS m l) [] = m
   ·rw [if_pos d, if_pos ⟨by simp; exact d.1, by simpa using d.2⟩]
   ·rw [if_neg d, if_neg (fun e => d ⟨by have := e.1; simp at this; exact this, by simpa using e.2⟩)]; simp
  ·rw [if_neg c, if_neg c]
   by_cases d : x = m
   ·rw [if_pos d, if_pos ⟨by simp, by simpa using d⟩]
   ·rw [if_neg d, if_neg (fun e => d (by simpa using e.2))]; simp
def keepS (a : List (List Int)) (m : List Int) : Bool := if omS m (m.length : Int) = true then if a.length = 0 ∨ (a.getD 0 []).length = m.length then true else false else false
def conS : List (List Int) → List (List Int) → List (List Int)
 | a, [] => a
 | a, m :: r => conS (if keepS a m = true then a ++ [m] else a) r
def Alike (n : Nat) (l : List (List Int)) : Prop := ∀ x ∈ l, Om n x
theorem Alike.get {n : Nat} {l : List (List Int)} (h : Alike n l) {i : Nat} (hi : i < l.length) : Om n (l.getD i []) := h _ (getD_mem l [] hi)
def topB (l : List (List Int)) (m : List Int) : Bool := l.all (fun x => !(leqS m x && !leqS x m))
def maxS (l : List (List Int)) : List (List Int) := l.foldl (fun out m => if topB l m = true then putS m out else out) []
theorem conS_alike : ∀ (l a : List (List Int)) (n : Nat), Alike n a → (a ≠ [] ∨ ∃ n', n' = n) → ∃ n', Alike n' (conS a l) ∧ (a ≠ [] → n' = n)
 | [], a, n, h, _ => ⟨n, h, fun _ => rfl⟩
 | m :: r, a, n, h, _ => by
  unfold conS
  by_cases c : keepS a m = true
  ·rw [if_pos c]
   unfold keepS at c
   by_cases d : omS m (m.length : Int) = true
   ·rw [if_pos d] at c
    have om := omS_self.1 d
    cases a with
    | nil =>
     obtain ⟨n', h1, h2⟩ := conS_alike r ([] ++ [m]) m.length (fun x hx => by simp at hx; rw [hx]; exact om) (Or.inr ⟨_, rfl⟩)
     exact ⟨n', h1, fun h => absurd rfl h⟩
    | cons z a =>
     have hz := h z (List.mem_cons_self ..)
     have e : m.length = n := by
      by_cases g : (z :: a).length = 0 ∨ ((z :: a).getD 0 []).length = m.length
      ·rcases g with g | g
       ·simp at g
       ·rw [← g]; exact hz.len
      ·rw [if_neg g] at c; cases c
     obtain ⟨n', h1, h2⟩ := conS_alike r (z :: a ++ [m]) n (fun x hx => by
      rcases List.mem_append.1 hx with hx | hx
      ·exact h x hx
      ·simp at hx; rw [hx, ← e]; exact om) (Or.inr ⟨_, rfl⟩)
     exact ⟨n', h1, fun _ => h2 (by simp)⟩
   ·rw [if_neg d] at c; cases c
  ·rw [if_neg c]
   exact conS_alike r a n h (Or.inr ⟨_, rfl⟩)
theorem conS_ok (l : List (List Int)) : ∃ n, Alike n (conS [] l) := by
 obtain ⟨n, h, _⟩ := conS_alike l [] 0 (fun x hx => by cases hx) (Or.inr ⟨_, rfl⟩)
 exact ⟨n, h⟩
theorem conS_all {n : Nat} : ∀ (l a : List (List Int)), Alike n a → Alike n l → conS a l = a ++ l
 | [], a, _, _ => by unfold conS; simp
 | m :: r, a, ha, hl => by
  unfold conS
  have om := hl m (List.mem_cons_self ..)
  have c : keepS a m = true := by
   unfold keepS
   rw [if_pos (omS_self.2 (by rw [om.len]; exact om)), if_pos]
   cases a with
   | nil => exact Or.inl rfl
   | cons z a => right; have := (ha z (List.mem_cons_self ..)).len; rw [om.len]; exact this
  rw [if_pos c, conS_all r _ (fun x hx => by
   rcases List.mem_append.1 hx with hx | hx
   ·exact ha x hx
   ·simp at hx; rw [hx]; exact om) (fun x hx => hl x (List.mem_cons_of_mem _ hx)), List.append_assoc]; rfl
theorem topB_iff {l : List (List Int)} {m : List Int} : topB l m = true ↔ ∀ x ∈ l, leqS m x = true → leqS x m = true := by
 unfold topB
 rw [List.all_eq_true]
 constructor
 ·intro h x hx hl
  have := h x hx
  cases e : leqS x m with
  | true => rfl
  | false => rw [hl, e] at this; cases this
 ·intro h x hx
  cases e : leqS m x with
  | true => rw [h x hx e]; rfl
  | false => rfl
theorem maxS_spec {n : Nat} {l : List (List Int)} (h : Alike n l) : Sorted n (maxS l) ∧ ∀ m, m ∈ maxS l ↔ m ∈ l ∧ topB l m = true := by
 unfold maxS
 have go : ∀ (r out : List (List Int)), (∀ x ∈ r, x ∈ l) → Sorted n out → Sorted n (r.foldl (fun out m => if topB l m = true then putS m out else out) out) ∧ ∀ m, m ∈ r.foldl (fun out m => if topB l m = true then putS m out else out) out ↔ m ∈ out ∨ (m ∈ r ∧ topB l m = true) := by
  intro r
  induction r with
  | nil => intro out _ hs; exact ⟨hs, fun m => by simp⟩
  | cons x r ih =>
   intro out hr hs
   rw [List.foldl_cons]
   by_cases c : topB l x = true
   ·rw [if_pos c]
    obtain ⟨h1, h2⟩ := ih (putS x out) (fun y hy => hr y (List.mem_cons_of_mem _ hy)) (hs.put (h x (hr x (List.mem_cons_self ..))).len)
    refine ⟨h1, fun m => ?_⟩
    rw [h2, mem_putS, List.mem_cons]
    constructor
    ·rintro ((e | e) | e)
     ·exact Or.inr ⟨Or.inl e, e ▸ c⟩
     ·exact Or.inl e
     ·exact Or.inr ⟨Or.inr e.1, e.2⟩
    ·rintro (e | ⟨e | e, f⟩)
     ·exact Or.inl (Or.inr e)
     ·exact Or.inl (Or.inl e)
     ·exact Or.inr ⟨e, f⟩
   ·rw [if_neg c]
    obtain ⟨h1, h2⟩ := ih out (fun y hy => hr y (List.mem_cons_of_mem _ hy)) hs
    refine ⟨h1, fun m => ?_⟩
    rw [h2, List.mem_cons]
    constructor
    ·rintro (e | e)
     ·exact Or.inl e
     ·exact Or.inr ⟨Or.inr e.1, e.2⟩
    ·rintro (e | ⟨e | e, f⟩)
     ·exact Or.inl e
     ·exact absurd (e ▸ f) c
     ·exact Or.inr ⟨e, f⟩
 obtain ⟨h1, h2⟩ := go l [] (fun _ h => h) ⟨List.Pairwise.nil, fun x hx => by cases hx⟩
 exact ⟨h1, fun m => by rw [h2]; simp⟩
theorem Alike.leq {n : Nat} {l : List (List Int)} (h : Alike n l) {x y : List Int} (hx : x ∈ l) (hy : y ∈ l) : leqS x y = true ↔ Le x y := by
 have ox := h x hx
 have oy := h y hy
 rw [leqS_iff, oy.len]
 exact ⟨fun e => e.2.2, fun e => ⟨ox, oy, e⟩⟩
theorem filter_lt {α : Type} {p q : α → Bool} : ∀ {l : List α}, (∀ x ∈ l, p x = true → q x = true) → (∃ a ∈ l, q a = true ∧ p a = false) → (l.filter p).length < (l.filter q).length
 | [], _, h => by obtain ⟨a, ha, _⟩ := h; cases ha
 | x :: l, h, he => by
  have hsub : ∀ {l : List α}, (∀ x ∈ l, p x = true → q x = true) → (l.filter p).length ≤ (l.filter q).length := fun {l} h => by
   induction l with
   | nil => exact Nat.le_refl _
   | cons y l ih =>
    have i2 := ih (fun z hz => h z (List.mem_cons_of_mem _ hz))
    cases e : p y with
    | true => rw [List.filter_cons_of_pos e, List.filter_cons_of_pos (h y (List.mem_cons_self ..) e), List.length_cons, List.length_cons]; omega
    | false =>
     rw [List.filter_cons_of_neg (by rw [e]; simp)]
     cases f : q y with
     | true => rw [List.filter_cons_of_pos f, List.length_cons]; omega
     | false => rw [List.filter_cons_of_neg (by rw [f]; simp)]; exact i2
  have h' : ∀ z ∈ l, p z = true → q z = true := fun z hz => h z (List.mem_cons_of_mem _ hz)
  obtain ⟨a, ha, qa, pa⟩ := he
  rcases List.mem_cons.1 ha with rfl | ha
  ·rw [List.filter_cons_of_neg (by rw [pa]; simp), List.filter_cons_of_pos qa, List.length_cons]
   have := hsub h'
   omega
  ·have ih := filter_lt h' ⟨a, ha, qa, pa⟩
   cases e : p x with
   | true => rw [List.filter_cons_of_pos e, List.filter_cons_of_pos (h x (List.mem_cons_self ..) e), List.length_cons, List.length_cons]; omega
   | false =>
    rw [List.filter_cons_of_neg (by rw [e]; simp)]
    cases f : q x with
    | true => rw [List.filter_cons_of_pos f, List.length_cons]; omega
    | false => rw [List.filter_cons_of_neg (by rw [f]; simp)]; exact ih
theorem max_above {n : Nat} {l : List (List Int)} (h : Alike n l) : ∀ (d : Nat) {x : List Int}, x ∈ l → (l.filter (fun z => leqS x z && !leqS z x)).length = d → ∃ y ∈ maxS l, Le x y := by
 intro d
 induction d using Nat.strongRecOn with
 | _ d ih =>
  intro x hx hd
  by_cases c : topB l x = true
  ·exact ⟨x, (maxS_spec h).2 x |>.2 ⟨hx, c⟩, Le.refl _⟩
  ·obtain ⟨z, hz, xz, zx⟩ : ∃ z ∈ l, leqS x z = true ∧ leqS z x = false := by
    apply Classical.byContradiction
    intro y
    refine c (topB_iff.2 fun z hz hle => ?_)
    cases e : leqS z x with
    | true => rfl
    | false => exact absurd ⟨z, hz, hle, e⟩ y
   have lx := (h x hx).len
   have lz := (h z hz).len
   have xz' := (h.leq hx hz).1 xz
   have hlt : (l.filter (fun w => leqS z w && !leqS w z)).length < (l.filter (fun w => leqS x w && !leqS w x)).length := filter_lt (fun w hw hp => by
    have lw := (h w hw).len
    obtain ⟨a, b⟩ := Bool.and_eq_true_iff.1 hp
    have zw := (h.leq hz hw).1 a
    have xw := xz'.trans zw (by omega)
    rw [(h.leq hx hw).2 xw]
    cases e : leqS w x with
    | false => rfl
    | true =>
     have wz := ((h.leq hw hx).1 e).trans xz' (by omega)
     rw [(h.leq hw hz).2 wz] at b
     cases b) ⟨z, hz, by rw [xz, zx]; rfl, by
     have zz := (h.leq hz hz).2 (Le.refl z)
     rw [zz]; rfl⟩
   obtain ⟨y, hy, zy⟩ := ih _ (by omega) hz rfl
   exact ⟨y, hy, xz'.trans zy (by omega)⟩
theorem above {n : Nat} {l : List (List Int)} (h : Alike n l) {x : List Int} (hx : x ∈ l) : ∃ y ∈ maxS l, Le x y := max_above h _ hx rfl
theorem maxS_in {n : Nat} {l : List (List Int)} (h : Alike n l) {x : List Int} (hx : x ∈ maxS l) : x ∈ l := ((maxS_spec h).2 x).1 hx |>.1
theorem maxS_alike {n : Nat} {l : List (List Int)} (h : Alike n l) : Alike n (maxS l) := fun x hx => h x (maxS_in h hx)
theorem conS_same {n : Nat} {l : List (List Int)} (h : Alike n l) : conS [] l = l := by
 rw [conS_all (n := n) _ [] (fun x hx => by cases hx) h, List.nil_append]
theorem mvalid_one (x : Int) : Ev (fun k => qBA.f k [x] 1) (if x < 0 ∨ x > 1048576 then false else true) := by
 refine Ev.stepn 2 (f := fun _ => some (if x < 0 ∨ x > 1048576 then false else true)) (fun k => ?_) (Ev.some _)
 have e : rd [x] 0 = x := rfl
 have w : wrap64 (0 + 1) = 1 := by rw [wrap_ok (by omega) (by omega)]; rfl
 simp only [qBA.f, qBA.l0, List.length_singleton, Int.ofNat_one, Int.natCast_one, e, w, ↓reduceIte, Int.reduceLT, Int.reduceLE, Int.lt_irrefl]
 by_cases c : x < 0
 ·rw [if_pos c, if_pos (Or.inl c)]
 ·rw [if_neg c]
  by_cases d : x > 1048576
  ·rw [if_pos d, if_pos (Or.inr d)]
  ·rw [if_neg d, if_neg (by omega)]
theorem omvalid_ev (m : List Int) (n : Int) (hm : m.length ≤ 17592186043904) : Ev (fun k => qAN.f k m n) (omS m n) := by
 unfold qAN.f omS
 by_cases h : (m.length : Int) = n
 ·rw [if_pos h]
  simp only [h, ↓reduceIte]
  rw [← h]
  have step : ∀ (i : Nat), i < m.length → ∀ r, ((if okN (m.getD i 0) = true then Ev (fun k => qAN.l0 k m (m.length : Int) ((i + 1 : Nat) : Int)) r else r = false)) → Ev (fun k => qAN.l0 k m (m.length : Int) (i : Int)) r := by
   intro i hi r hr
   refine Ev.up ?_
   simp only [qAN.l0, lt_int hi, nn, ↓reduceIte, rd_nat, wrap_up hi (by omega : m.length ≤ 9223372036854775807)]
   unfold okN at hr
   by_cases c : m.getD i 0 = -1
   ·simp only [c, ↓reduceIte] at hr ⊢
    exact hr
   ·simp only [c, ↓reduceIte] at hr ⊢
    refine Ev.bind (mvalid_one _) ?_
    by_cases d : m.getD i 0 < 0 ∨ m.getD i 0 > 1048576
    ·simp only [d, ↓reduceIte, Bool.false_eq_true] at hr ⊢
     rw [hr]; exact Ev.some _
    ·simp only [d, ↓reduceIte, Bool.false_eq_true] at hr ⊢
     exact hr
  refine Ev_first (L := fun k i => qAN.l0 k m (m.length : Int) (i : Int)) (fun i => if okN (m.getD i 0) = true then none else some false) (fun i hi hp r hr => step i hi r ?_) (fun i r hi hp => step i hi r ?_) (Ev.one (fun k => by simp only [qAN.l0]; rw [if_neg (by omega)]))
  ·rw [if_pos (of_ite_none hp)]; exact hr
  ·obtain ⟨h1, h2⟩ := of_ite_some hp
   rw [if_neg h1]; exact h2.symm
 ·simp only [h, ↓reduceIte]
  exact Ev.some _
def rk (k : Int) : Int := if k = -1 then 1048577 else k
theorem rank_eq (k : Int) : omega_rank.f k = some (rk k) := by
 unfold omega_rank.f rk
 by_cases h : k = -1
 · rw [if_pos h, if_pos h]
 · rw [if_neg h, if_neg h]
theorem rk_more {a b : Int} (ha : okN a = true) (hb : okN b = true) : (rk a > rk b) ↔ moreS a b = true := by
 have h1 := okN_iff.1 ha
 have h2 := okN_iff.1 hb
 unfold rk moreS
 by_cases c : a = -1
 ·rw [if_pos c, if_pos (Or.inl c)]
  by_cases d : b = -1
  ·rw [if_pos d, dec_f (by omega)]
   exact ⟨fun h => by omega, fun h => by cases h⟩
  ·rw [if_neg d, dec_t ⟨c, d⟩]
   exact ⟨fun _ => rfl, fun _ => by omega⟩
 ·rw [if_neg c]
  by_cases d : b = -1
  ·rw [if_pos d, if_pos (Or.inr d), dec_f (by omega)]
   exact ⟨fun h => by omega, fun h => by cases h⟩
  ·rw [if_neg d, if_neg (by omega)]
   exact ⟨fun h => dec_t h, fun h => of_dec h⟩
theorem ranks_ev (m : List Int) (hm : m.length ≤ 17592186043904) : Ev (fun k => qAO.f k m) (mr m.length (fun i => rk (m.getD i 0))) := by
 unfold qAO.f
 simp only [nn, Int.toNat_natCast, show m.length ≤ 35184372088832 by omega, ↓reduceIte, mr_rep]
 have h := Ev_st (L := fun k s i => qAO.l0 k s m (m.length : Int) i) (n := m.length) (r := mr m.length (fun i => rk (m.getD i 0))) (fun i => mr m.length (fun v => if v < i then rk (m.getD v 0) else 0))
  (fun i hi hr => by
   refine Ev.up ?_
   simp only [qAO.l0, lt_int hi, nn, ↓reduceIte, rd_nat, rank_eq, Option.bind_some, mr_len, Int.toNat_natCast, mr_set, wrap_up hi (by omega : m.length ≤ 9223372036854775807)]
   refine Ev.congr (fun k => ?_) hr
   congr 1
   refine mr_congr fun v hv => ?_
   by_cases c : v = i
   ·rw [if_pos c, if_pos (by omega), c]
   ·rw [if_neg c]
    by_cases d : v < i
    ·rw [if_pos d, if_pos (by omega)]
    ·rw [if_neg d, if_neg (by omega)])
  (by
   refine Ev.one (fun k => ?_)
   simp only [qAO.l0]
   rw [if_neg (by omega)]
   congr 1
   exact mr_congr fun v hv => by rw [if_pos hv])
 refine Ev.congr (fun k => ?_) h
 congr 1
theorem leqm_ev (a b : List Int) (hl : a.length = b.length) (hm : a.length ≤ 17592186043904) : Ev (fun k => marking_Leq.f k a b) (first (fun i => if a.getD i 0 > b.getD i 0 then some false else none) true a.length) := by
 unfold marking_Leq.f
 simp only [show (a.length : Int) = (b.length : Int) by omega, ↓reduceIte]
 rw [show (b.length : Int) = (a.length : Int) by omega]
 refine Ev_loop (L := fun k i => marking_Leq.l0 k a b (a.length : Int) (i : Int)) 1 _ (fun k i hi => ?_) (Ev.one (fun k => by simp only [marking_Leq.l0]; rw [if_neg (by omega)]))
 simp only [marking_Leq.l0, lt_int hi, nn, ↓reduceIte, rd_nat, lt_int (show i < b.length by omega), wrap_up hi (by omega : a.length ≤ 9223372036854775807)]
 by_cases c : a.getD i 0 > b.getD i 0
 · rw [if_pos c, if_pos c]; rfl
 · rw [if_neg c, if_neg c]; rfl
theorem leq_ev (a b : List Int) (ha : a.length ≤ 17592186043904) (hb : b.length ≤ 17592186043904) : Ev (fun k => omega_Leq.f k a b) (leqS a b) := by
 unfold omega_Leq.f leqS
 refine Ev.bind (omvalid_ev a _ ha) ?_
 by_cases h1 : omS a (b.length : Int) = true
 ·simp only [h1, ↓reduceIte]
  refine Ev.bind (omvalid_ev b _ hb) ?_
  by_cases h2 : omS b (b.length : Int) = true
  ·simp only [h2, ↓reduceIte]
   refine Ev.bind (ranks_ev a ha) ?_
   refine Ev.bind (ranks_ev b hb) ?_
   have o1 := omS_iff.1 h1
   have o2 := omS_iff.1 h2
   have hl : (mr a.length (fun i => rk (a.getD i 0))).length = (mr b.length (fun i => rk (b.getD i 0))).length := by rw [mr_len, mr_len, o1.len]
   refine Ev.bind (leqm_ev _ _ hl (by rw [mr_len]; exact ha)) ?_
   rw [mr_len]
   rw [first_congr (q := fun i => if moreS (a.getD i 0) (b.getD i 0) = true then some false else none)]
   ·exact Ev.some _
   ·intro i hi
    have hi2 : i < b.length := by rw [← o1.len]; exact hi
    simp only [mr_get _ _ hi, mr_get _ _ hi2]
    have e := rk_more (o1.ok i hi2) (o2.ok i hi2)
    by_cases c : moreS (a.getD i 0) (b.getD i 0) = true
    ·rw [if_pos c, if_pos (e.2 c)]
    ·rw [if_neg c, if_neg (fun x => c (e.1 x))]
  ·simp only [h2]; exact Ev.some _
 ·simp only [h1]; exact Ev.some _
theorem cpy_same (m : List Int) : cpy (List.replicate m.length 0) m = m := cpy_all _ _ (by simp)
theorem acc_ev (low high : List Int) (ha : low.length ≤ 17592186043904) (hb : high.length ≤ 17592186043904) : Ev (fun k => qAM.f k low high) (accS low high) := by
 unfold qAM.f accS
 simp only [nn, Int.toNat_natCast, show high.length ≤ 35184372088832 by omega, ↓reduceIte, cpy_same, Option.bind_some]
 refine Ev.bind (leq_ev low high ha hb) ?_
 by_cases h : leqS low high = true
 ·simp only [h, ↓reduceIte]
  obtain ⟨o1, o2, _⟩ := leqS_iff.1 h
  have hh := Ev_st (L := fun k s i => qAM.l0 k low s high (high.length : Int) i) (n := high.length) (r := mr high.length (fun i => if moreS (high.getD i 0) (low.getD i 0) = true then -1 else high.getD i 0))
   (fun i => mr high.length (fun v => if v < i ∧ moreS (high.getD v 0) (low.getD v 0) = true then -1 else high.getD v 0))
   (fun i hi hr => by
    refine Ev.up ?_
    simp only [qAM.l0, lt_int hi, lt_int (show i < low.length by rw [o1.len]; exact hi), nn, ↓reduceIte, rd_nat, rank_eq, Option.bind_some, mr_len, Int.toNat_natCast, wrap_up hi (by omega : high.length ≤ 9223372036854775807)]
    have e := rk_more (o2.ok i hi) (o1.ok i hi)
    by_cases c : moreS (high.getD i 0) (low.getD i 0) = true
    ·simp only [e.2 c, ↓reduceIte, mr_set]
     refine Ev.congr (fun k => ?_) hr
     congr 1
     refine mr_congr fun v hv => ?_
     by_cases d : v = i
     ·subst d
      rw [if_pos rfl, if_pos ⟨by omega, c⟩]
     ·rw [if_neg d]
      by_cases d2 : v < i ∧ moreS (high.getD v 0) (low.getD v 0) = true
      ·rw [if_pos d2, if_pos ⟨by omega, d2.2⟩]
      ·rw [if_neg d2, if_neg (fun x => d2 ⟨by omega, x.2⟩)]
    ·simp only [show ¬ (rk (high.getD i 0) > rk (low.getD i 0)) from fun x => c (e.1 x), ↓reduceIte]
     refine Ev.congr (fun k => ?_) hr
     congr 1
     refine mr_congr fun v hv => ?_
     by_cases d : v = i
     ·subst d
      rw [if_neg (fun x => c x.2), if_neg (fun x => c x.2)]
     ·by_cases d2 : v < i ∧ moreS (high.getD v 0) (low.getD v 0) = true
      ·rw [if_pos d2, if_pos ⟨by omega, d2.2⟩]
      ·rw [if_neg d2, if_neg (fun x => d2 ⟨by omega, x.2⟩)])
   (by
    refine Ev.one (fun k => ?_)
    simp only [qAM.l0]
    rw [if_neg (by omega)]
    congr 1
    exact mr_congr fun v hv => by
     by_cases c : moreS (high.getD v 0) (low.getD v 0) = true
     ·rw [if_pos ⟨hv, c⟩, if_pos c]
     ·rw [if_neg (fun x => c x.2), if_neg c])
  refine Ev.congr (fun k => ?_) hh
  congr 1
  refine ext0 (by rw [mr_len]) (fun i hi => ?_)
  rw [mr_get _ _ hi, if_neg (fun x => absurd x.1 (Nat.not_lt_zero _))]
 ·simp only [h]; exact Ev.some _
theorem rdL (xs : List (List Int)) (i : Nat) : rd_L11 xs (i : Int) = xs.getD i [] := by simp [rd_L11]
theorem getD_app {α : Type} (xs : List α) (x d : α) (j : Nat) : (xs ++ [x]).getD j d = if j = xs.length then x else xs.getD j d := by
 have := rdOf_app d xs x (j : Int) (by omega)
 rw [rdOf_nat, rdOf_nat] at this
 rw [this]
 by_cases e : j = xs.length
 · rw [if_pos e, if_pos (by omega)]
 · rw [if_neg e, if_neg (by omega)]
theorem rdL0 (xs : List (List Int)) : rd_L11 xs 0 = xs.getD 0 [] := rdL xs 0
theorem conS_snoc (m : List Int) : ∀ (r a : List (List Int)), conS a (r ++ [m]) = if keepS (conS a r) m = true then conS a r ++ [m] else conS a r
 | [], a => rfl
 | x :: r, a => by
  rw [List.cons_append]
  exact conS_snoc m r (if keepS a x = true then a ++ [x] else a)
theorem take_next {α : Type} (l : List α) (z : α) {i : Nat} (h : i < l.length) : l.take (i + 1) = l.take i ++ [l.getD i z] := by
 rw [List.take_succ_eq_append_getElem h, List.getD_eq_getElem?_getD, List.getElem?_eq_getElem h]; rfl
theorem conS_next (l : List (List Int)) {i : Nat} (h : i < l.length) : conS [] (l.take (i + 1)) = if keepS (conS [] (l.take i)) (l.getD i []) = true then conS [] (l.take i) ++ [l.getD i []] else conS [] (l.take i) := by
 rw [take_next l [] h, conS_snoc]
theorem conS_len : ∀ (r a : List (List Int)), (conS a r).length ≤ a.length + r.length
 | [], a => by unfold conS; omega
 | x :: r, a => by
  have h := conS_len r (if keepS a x = true then a ++ [x] else a)
  have e : (if keepS a x = true then a ++ [x] else a).length ≤ a.length + 1 := by
   split
   ·simp
   ·omega
  have e2 : conS a (x :: r) = conS (if keepS a x = true then a ++ [x] else a) r := rfl
  rw [e2, List.length_cons]; omega
theorem conS_sub : ∀ (r a : List (List Int)) (x : List Int), x ∈ conS a r → x ∈ a ∨ x ∈ r
 | [], a, x, h => Or.inl h
 | y :: r, a, x, h => by
  rcases conS_sub r _ x h with h | h
  ·split at h
   ·rcases List.mem_append.1 h with h | h
    ·exact Or.inl h
    ·rw [List.mem_singleton.1 h]; exact Or.inr (List.mem_cons_self ..)
   ·exact Or.inl h
  ·exact Or.inr (List.mem_cons_of_mem _ h)
theorem keepS_eq (a : List (List Int)) (m : List Int) : keepS a m = if omS m (m.length : Int) = true then (if a.length = 0 then true else decide ((a.getD 0 []).length = m.length)) else false := by
 unfold keepS
 by_cases h : omS m (m.length : Int) = true
 ·rw [if_pos h, if_pos h]
  by_cases c : a.length = 0
  ·rw [if_pos c, if_pos (Or.inl c)]
  ·rw [if_neg c]
   by_cases d : (a.getD 0 []).length = m.length
   ·rw [if_pos (Or.inr d), dec_t d]
   ·rw [if_neg (fun x => x.elim c d), dec_f d]
 ·rw [if_neg h, if_neg h]
def cmpS (a b : List Int) : Int := if ltB a b = true then -1 else if a = b then 0 else 1
theorem lt_asymm {a b : List Int} (h : Lt a b) (k : Lt b a) (hl : a.length = b.length) : False := Lt.irrefl a (h.trans k hl)
theorem cmpS_first {n : Nat} {a b : List Int} (ha : Om n a) (hb : Om n b) : first (fun i => if rk (a.getD i 0) < rk (b.getD i 0) then some (-1) else if rk (a.getD i 0) > rk (b.getD i 0) then some 1 else none) 0 n = cmpS a b := by
 have hl : a.length = b.length := by rw [ha.len, hb.len]
 have same : ∀ i, a.getD i 0 = b.getD i 0 → (if rk (a.getD i 0) < rk (b.getD i 0) then some (-1) else if rk (a.getD i 0) > rk (b.getD i 0) then some 1 else none : Option Int) = none := fun i e => by
  rw [e, if_neg (Int.lt_irrefl _), if_neg (Int.lt_irrefl _)]
 rcases lt_or hl with h | h | h
 ·have e : cmpS a b = -1 := by unfold cmpS; rw [if_pos (ltB_iff.2 h)]
  obtain ⟨i, h1, h2, h3⟩ := h
  have hi : i < n := by rw [← ha.len]; exact h1
  rw [e]
  refine first_at i hi ?_ (fun m hm => same m (h2 m hm))
  rw [if_pos ((rk_more (hb.ok i hi) (ha.ok i hi)).2 h3)]
 ·subst h
  have e : cmpS a a = 0 := by unfold cmpS; rw [if_neg (fun x => Lt.irrefl a (ltB_iff.1 x)), if_pos rfl]
  rw [e]
  exact first_all (fun j _ => same j rfl)
 ·have e : cmpS a b = 1 := by
   unfold cmpS
   rw [if_neg (fun x => lt_asymm h (ltB_iff.1 x) hl.symm), if_neg (fun x => by subst x; exact Lt.irrefl a h)]
  obtain ⟨i, h1, h2, h3⟩ := h
  have hi : i < n := by rw [← hb.len]; exact h1
  rw [e]
  have r := (rk_more (ha.ok i hi) (hb.ok i hi)).2 h3
  refine first_at i hi ?_ (fun m hm => same m (h2 m hm).symm)
  rw [if_neg (by omega), if_pos r]
theorem compare_ev {n : Nat} {a b : List Int} (ha : Om n a) (hb : Om n b) (hn : n ≤ 17592186043904) : Ev (fun k => qAZ.f k (mr a.length (fun i => rk (a.getD i 0))) (mr b.length (fun i => rk (b.getD i 0)))) (cmpS a b) := by
 rw [← cmpS_first ha hb, ha.len, hb.len]
 unfold qAZ.f
 have e : mn ((mr n (fun i => rk (a.getD i 0))).length : Int) ((mr n (fun i => rk (b.getD i 0))).length : Int) = (n : Int) := by
  rw [mr_len, mr_len]; unfold mn; split <;> rfl
 simp only [e]
 refine Ev_loop (L := fun k i => qAZ.l0 k (mr n (fun i => rk (a.getD i 0))) (mr n (fun i => rk (b.getD i 0))) (n : Int) (i : Int)) 1 _ (fun k i hi => ?_) (Ev.one (fun k => by simp only [qAZ.l0, Int.lt_irrefl, ↓reduceIte, mr_len]))
 simp only [qAZ.l0, lt_int hi, nn, ↓reduceIte, rd_nat, mr_len, mr_get _ _ hi, wrap_up hi (by omega : n ≤ 9223372036854775807)]
 by_cases c : rk (a.getD i 0) < rk (b.getD i 0)
 ·rw [if_pos c, if_pos c]; rfl
 ·rw [if_neg c, if_neg c]
  by_cases d : rk (a.getD i 0) > rk (b.getD i 0)
  ·rw [if_pos d, if_pos d]; rfl
  ·rw [if_neg d, if_neg d]; rfl
theorem cmpS_neg {a b : List Int} : cmpS a b < 0 ↔ ltB a b = true := by
 unfold cmpS
 by_cases c : ltB a b = true
 ·rw [if_pos c]; exact ⟨fun _ => c, fun _ => by omega⟩
 ·rw [if_neg c]
  refine ⟨fun h => ?_, fun h => absurd h c⟩
  split at h <;> omega
theorem cmpS_zero {a b : List Int} (h : ltB a b = false) : cmpS a b = 0 ↔ a = b := by
 unfold cmpS
 rw [h, if_neg Bool.false_ne_true]
 by_cases c : a = b
 · rw [if_pos c]; exact ⟨fun _ => c, fun _ => rfl⟩
 · rw [if_neg c]; exact ⟨fun x => by omega, fun x => absurd x c⟩
theorem below_ev (a b : List Int) (ha : a.length ≤ 17592186043904) (hb : b.length ≤ 17592186043904) : Ev (fun k => qAR.f k a b) (leqS a b && !leqS b a) := by
 unfold qAR.f
 refine Ev.bind (leq_ev a b ha hb) ?_
 by_cases c : leqS a b = true
 ·simp only [c, ↓reduceIte]
  exact Ev.bind (leq_ev b a hb ha) (Ev.some _)
 ·have e : leqS a b = false := by cases h : leqS a b with | false => rfl | true => exact absurd h c
  simp only [e, Bool.false_eq_true, ↓reduceIte]
  exact Ev.some _
theorem some_ev {l : List (List Int)} {m : List Int} (hl : l.length ≤ 1000000) (hr : ∀ x ∈ l, x.length ≤ 17592186043904) (hm : m.length ≤ 17592186043904) : Ev (fun k => qAS.f k l m) (!topB l m) := by
 unfold qAS.f
 refine Ev_ex (L := fun k i => qAS.l0 k m l (l.length : Int) (i : Int)) (n := l.length) (fun i => (leqS m (l.getD i []) && !leqS (l.getD i []) m) = true) (a := true) (e := false) (fun i hi c => ?_) (fun i hi c s hs => ?_) (fun _ => Ev.one (fun k => by simp only [qAS.l0, Int.lt_irrefl, ↓reduceIte])) (fun ⟨j, hj, c⟩ => ?_) (fun c => ?_)
 ·refine Ev.up ?_
  simp only [qAS.l0, lt_int hi, nn, ↓reduceIte, rdL]
  refine Ev.bind (below_ev _ _ hm (hr _ (getD_mem l [] hi))) ?_
  simp only [c, ↓reduceIte]
  exact Ev.some _
 ·refine Ev.up ?_
  simp only [qAS.l0, lt_int hi, nn, ↓reduceIte, rdL, wrap_up hi (by omega : l.length ≤ 9223372036854775807)]
  refine Ev.bind (below_ev _ _ hm (hr _ (getD_mem l [] hi))) ?_
  simp only [c, ↓reduceIte]
  exact hs
 ·cases e : topB l m with
  | false => rfl
  | true =>
   have := topB_iff.1 e _ (getD_mem l [] hj)
   cases h1 : leqS m (l.getD j []) with
   | false => rw [h1] at c; cases c
   | true => rw [h1, this h1] at c; cases c
 ·have e : topB l m = true := topB_iff.2 fun x hx hle => by
   obtain ⟨j, hj, rfl⟩ := List.getElem_of_mem hx
   have := c j hj
   rw [List.getD_eq_getElem?_getD, List.getElem?_eq_getElem hj] at this
   simp only [Option.getD_some] at this
   cases h2 : leqS l[j] m with
   | true => rfl
   | false => exact absurd (by rw [hle, h2]; rfl) this
  rw [e]; rfl
theorem putS_len (m : List Int) : ∀ l : List (List Int), (putS m l).length ≤ l.length + 1
 | [] => by unfold putS; simp
 | x :: r => by
  unfold putS
  have := putS_len m r
  split
  ·simp only [List.length_cons]; omega
  ·split <;> simp
def maxT (l : List (List Int)) (i : Nat) : List (List Int) := (l.take i).foldl (fun out m => if topB l m = true then putS m out else out) []
theorem maxT_next (l : List (List Int)) {i : Nat} (h : i < l.length) : maxT l (i + 1) = if topB l (l.getD i []) = true then putS (l.getD i []) (maxT l i) else maxT l i := by
 unfold maxT
 rw [take_next l [] h, List.foldl_append]; rfl
theorem maxT_all (l : List (List Int)) : maxT l l.length = maxS l := by unfold maxT maxS; rw [List.take_length]
theorem maxT_len (l : List (List Int)) : ∀ i, i ≤ l.length → (maxT l i).length ≤ i
 | 0, _ => by unfold maxT; simp
 | i + 1, h => by
  rw [maxT_next l (by omega)]
  have := maxT_len l i (by omega)
  have := putS_len (l.getD i []) (maxT l i)
  split <;> omega
theorem maxT_sub (l : List (List Int)) : ∀ i, i ≤ l.length → ∀ x ∈ maxT l i, x ∈ l
 | 0, _, x, hx => by unfold maxT at hx; simp at hx
 | i + 1, h, x, hx => by
  rw [maxT_next l (by omega)] at hx
  split at hx
  ·rcases mem_putS.1 hx with e | e
   ·rw [e]; exact getD_mem l [] (by omega)
   ·exact maxT_sub l i (by omega) x e
  ·exact maxT_sub l i (by omega) x hx
theorem max_place {n : Nat} {all out : List (List Int)} {m : List Int} (hn : n ≤ 17592186043904) (ho : Alike n out) (hm : Om n m) (hl : out.length ≤ 1000000) {ch : List (List Int)} {cy b9 : Int} {r : List (List Int)} (h : Ev (fun k => qAL.l1 k all (putS m out) ch cy (wrap64 (b9 + 1))) r) :
  Ev (fun k => qAL.l2 k all out m 0 ch cy b9) r := by
 have hml : m.length ≤ 17592186043904 := by rw [hm.len]; exact hn
 have hp := posS_le m out
 have own : qAL.own m out (posS m out : Int) = some m := by
  unfold qAL.own
  rw [if_pos ⟨by omega, nn _, by rw [Int.toNat_natCast]; exact hp⟩]
 have ins : qAL.ins out (posS m out : Int) m = out.take (posS m out) ++ m :: out.drop (posS m out) := by
  unfold qAL.ins; rw [Int.toNat_natCast]
 have h5 : out.length < 5864062014805 := by omega
 have row : ∀ i, i < out.length → Om n (out.getD i []) := fun i hi => ho.get hi
 have hrl : ∀ i, i < out.length → (out.getD i []).length ≤ 17592186043904 := fun i hi => by rw [(row i hi).len]; exact hn
 have j : Ev (fun k => qAL.j3 k all out m (posS m out : Int) ch cy b9) r := by
  refine Ev.up ?_
  rw [putS_pos] at h
  by_cases c : posS m out < out.length
  ·simp only [qAL.j3, lt_int c, nn, ↓reduceIte, rdL]
   refine Ev.bind (ranks_ev _ (hrl _ c)) ?_
   refine Ev.bind (ranks_ev _ hml) ?_
   refine Ev.bind (compare_ev (row _ c) hm hn) ?_
   have z := cmpS_zero (posS_at m out c)
   by_cases d : out.getD (posS m out) [] = m
   ·rw [if_pos ⟨c, d⟩] at h
    simp only [z.2 d, ↓reduceIte]
    exact h
   ·rw [if_neg (fun x => d x.2)] at h
    simp only [show ¬ cmpS (out.getD (posS m out) []) m = 0 from fun x => d (z.1 x), ↓reduceIte, own, ins, h5, Option.bind_some]
    exact h
  ·rw [if_neg (fun x => c x.1)] at h
   simp only [qAL.j3, show ¬ ((posS m out : Nat) : Int) < (out.length : Int) by omega, ↓reduceIte, own, ins, h5, Option.bind_some]
   exact h
 refine Ev_up (L := fun k i => qAL.l2 k all out m (i : Int) ch cy b9) (n := posS m out) (fun i hi hr => ?_) ?_
 ·have hi2 : i < out.length := by omega
  refine Ev.up ?_
  simp only [qAL.l2, lt_int hi2, nn, ↓reduceIte, rdL, wrap_up hi2 (by omega : out.length ≤ 9223372036854775807)]
  refine Ev.bind (ranks_ev _ (hrl _ hi2)) ?_
  refine Ev.bind (ranks_ev _ hml) ?_
  refine Ev.bind (compare_ev (row _ hi2) hm hn) ?_
  simp only [cmpS_neg.2 (posS_lt m out i hi), ↓reduceIte]
  exact hr
 ·refine Ev.up ?_
  by_cases c : posS m out < out.length
  ·simp only [qAL.l2, lt_int c, nn, ↓reduceIte, rdL]
   refine Ev.bind (ranks_ev _ (hrl _ c)) ?_
   refine Ev.bind (ranks_ev _ hml) ?_
   refine Ev.bind (compare_ev (row _ c) hm hn) ?_
   simp only [show ¬ cmpS (out.getD (posS m out) []) m < 0 from (fun x => by rw [cmpS_neg, posS_at m out c] at x; cases x), ↓reduceIte]
   exact j
  ·simp only [qAL.l2, show ¬ ((posS m out : Nat) : Int) < (out.length : Int) by omega, ↓reduceIte]
   exact j
theorem max_ev (l : List (List Int)) (hl : l.length ≤ 1000000) (hr : ∀ x ∈ l, x.length ≤ 17592186043904) : Ev (fun k => qAL.f k l) (maxS (conS [] l)) := by
 unfold qAL.f
 refine Ev_st (L := fun k s i => qAL.l0 k s l (l.length : Int) i) (n := l.length) (fun i => conS [] (l.take i)) (fun i hi hs => ?_) ?_
 ·have hlen := conS_len (l.take i) []
  rw [List.length_take, List.length_nil] at hlen
  rw [conS_next l hi, keepS_eq] at hs
  generalize conS [] (l.take i) = a at hs hlen ⊢
  have h5 : a.length < 5864062014805 := by omega
  refine Ev.up ?_
  simp only [qAL.l0, lt_int hi, nn, ↓reduceIte, rdL, rdL0, wrap_up hi (by omega : l.length ≤ 9223372036854775807)]
  refine Ev.bind (omvalid_ev _ _ (hr _ (getD_mem l [] hi))) ?_
  by_cases c : omS (l.getD i []) ((l.getD i []).length : Int) = true
  ·simp only [c, ↓reduceIte] at hs ⊢
   by_cases d : a.length = 0
   ·simp only [d, Int.ofNat_zero, Int.natCast_zero, ↓reduceIte] at hs ⊢
    exact hs
   ·simp only [show ¬ (a.length : Int) = 0 by omega, show (0 : Int) < (a.length : Int) by omega, d, ↓reduceIte] at hs ⊢
    by_cases e : (a.getD 0 []).length = (l.getD i []).length
    ·simp only [show ((a.getD 0 []).length : Int) = ((l.getD i []).length : Int) by omega, e, h5, decide_true, ↓reduceIte] at hs ⊢
     exact hs
    ·simp only [show ¬ ((a.getD 0 []).length : Int) = ((l.getD i []).length : Int) by omega, e, decide_false, Bool.false_eq_true, ↓reduceIte] at hs ⊢
     exact hs
  ·simp only [c, Bool.false_eq_true, ↓reduceIte] at hs ⊢
   exact hs
 ·rw [List.take_length]
  obtain ⟨n, hA⟩ := conS_ok l
  have hlen := conS_len l []
  rw [List.length_nil] at hlen
  have hsub : ∀ x ∈ conS [] l, x.length ≤ 17592186043904 := fun x hx => by
   rcases conS_sub l [] x hx with h | h
   ·cases h
   ·exact hr x h
  generalize conS [] l = all at hA hlen hsub ⊢
  refine Ev.up ?_
  simp only [qAL.l0, Int.lt_irrefl, ↓reduceIte]
  refine Ev_st (L := fun k s i => qAL.l1 k all s all (all.length : Int) i) (n := all.length) (fun i => maxT all i) (fun i hi hs => ?_) (Ev.one (fun k => by simp only [qAL.l1, Int.lt_irrefl, ↓reduceIte, maxT_all]))
  have hm := getD_mem all [] hi
  have om := hA _ hm
  have hn : n ≤ 17592186043904 := by rw [← om.len]; exact hsub _ hm
  have hml := maxT_len all i (by omega)
  have w := wrap_up hi (by omega : all.length ≤ 9223372036854775807)
  refine Ev.up ?_
  simp only [qAL.l1, lt_int hi, nn, ↓reduceIte, rdL]
  refine Ev.bind (some_ev (by omega) hsub (hsub _ hm)) ?_
  rw [maxT_next all hi] at hs
  by_cases c : topB all (all.getD i []) = true
  ·simp only [c, Bool.not_true, Bool.false_eq_true, ↓reduceIte] at hs ⊢
   refine max_place hn (fun x hx => hA x (maxT_sub all i (by omega) x hx)) om (by omega) ?_
   rw [w]; exact hs
  ·have c2 : topB all (all.getD i []) = false := by cases h : topB all (all.getD i []) with | false => rfl | true => exact absurd h c
   simp only [c2, Bool.not_false, Bool.false_eq_true, ↓reduceIte, w] at hs ⊢
   exact hs
theorem refcopy_ev (m : List Int) (hm : m.length ≤ 17592186043904) : Ev (fun k => r04_Copy.f k m) m := by
 unfold r04_Copy.f
 have h := Ev_up (L := fun k i => r04_Copy.l0 k m (m.take i) (i : Int)) (n := m.length) (r := m) (fun i hi hr => by
  refine Ev.up ?_
  have e : m.take (i + 1) = m.take i ++ [m.getD i 0] := by
   have := take_map_succ m id 0 hi
   simpa using this
  rw [e] at hr
  simp only [r04_Copy.l0, lt_int hi, nn, ↓reduceIte, rd_nat, wrap_up hi (by omega : m.length ≤ 9223372036854775807), show (m.take i).length < 17592186044416 by rw [List.length_take]; omega]
  exact hr)
  (Ev.one (fun k => by simp only [r04_Copy.l0]; rw [if_neg (by omega), List.take_length]))
 simpa using h
theorem same04_ev (a b : List Int) (ha : a.length ≤ 17592186043904) : Ev (fun k => r04_Same.f k a b) (decide (a = b)) := by
 unfold r04_Same.f
 by_cases h : (a.length : Int) = (b.length : Int)
 ·simp only [h, ↓reduceIte]
  have hl : a.length = b.length := by omega
  have := Ev_loop (L := fun k i => r04_Same.l0 k a b (i : Int)) (n := a.length) 1 (fun i => if a.getD i 0 = b.getD i 0 then none else some false) (e := true) (fun k i hi => by
   simp only [r04_Same.l0, lt_int hi, nn, ↓reduceIte, rd_nat, lt_int (show i < b.length by omega), wrap_up hi (by omega : a.length ≤ 9223372036854775807)]
   by_cases c : a.getD i 0 = b.getD i 0
   ·simp only [c, ↓reduceIte]; rfl
   ·simp only [c, ↓reduceIte]; rfl) (Ev.one (fun k => by simp only [r04_Same.l0]; rw [if_neg (by omega)]))
  refine Eq.mp ?_ this
  congr 1
  rcases qCP (fun i => if a.getD i 0 = b.getD i 0 then none else some false) true a.length with ⟨h1, h2⟩ | ⟨j, h1, h2, _⟩
  ·rw [h1, decide_eq_true]
   exact ext_getD 0 hl (fun i hi => of_ite_none (h2 i hi))
  ·obtain ⟨c1, c2⟩ := of_ite_some h2
   rw [← c2, decide_eq_false]
   rintro rfl; exact c1 rfl
 ·simp only [h, ↓reduceIte]
  rw [decide_eq_false (by rintro rfl; exact h rfl)]
  exact Ev.some _
theorem plain_ev (nm : ByteArray) {ps : List Pla} {ts : List Tra} (hp : ps.length ≤ 1000000) (ht : ts.length ≤ 1000000) (hT : Thin ts) : Ev (fun k => qBE.f k nm ps ts) (plainS (validS nm ps ts) ps ts) := by
 have h1 := Ev_loop (L := fun k i => qBE.l1 k ps (ps.length : Int) (i : Int) nm ps ts) (n := ps.length) 1 (fun i => if (ps.getD i zP).f2 ≠ 0 then some false else none) (e := validS nm ps ts)
  (fun k i hi => by
   simp only [qBE.l1]
   rw [if_pos (by omega), if_pos (by omega), if_pos (by omega), rdP, wrap_up hi (by omega)]
   by_cases c : (ps.getD i zP).f2 = 0
   ·rw [if_pos c, if_neg (by simpa using c)]; rfl
   ·rw [if_neg c, if_pos c]; rfl)
  (Ev.step (f := fun k => (net_valid.f k nm ps ts).bind fun t => some t) (fun k => by simp only [qBE.l1]; rw [if_neg (by omega)]) (Ev.bind (valid_ev nm hT) (Ev.some _)))
 exact Ev_loop (L := fun k i => qBE.l0 k ts (ts.length : Int) (i : Int) nm ps ts) (n := ts.length) 1 (fun i => if ((ts.getD i zT).f3.length : Int) > 0 ∨ (ts.getD i zT).f4 ≠ 0 then some false else none) (e := plainP ps (validS nm ps ts))
  (fun k i hi => by
   simp only [qBE.l0]
   rw [if_pos (by omega), if_pos (by omega), if_pos (by omega), rdT, wrap_up hi (by omega)]
   by_cases c1 : ((ts.getD i zT).f3.length : Int) > 0
   ·rw [if_pos c1, if_pos (Or.inl c1)]; rfl
   ·rw [if_neg c1]
    by_cases c2 : (ts.getD i zT).f4 = 0
    ·rw [if_pos c2, if_neg (fun h => h.elim c1 (fun h => h c2))]; rfl
    ·rw [if_neg c2, if_pos (Or.inr c2)]; rfl)
  (Ev.step (f := fun k => qBE.l1 k ps (ps.length : Int) ((0 : Nat) : Int) nm ps ts) (fun k => by simp only [qBE.l0]; rw [if_neg (by omega)]; rfl) h1)
theorem filter_len (q : Nat → Bool) (i : Nat) : (((List.range i).filter q).map (fun t : Nat => (t : Int))).length ≤ i := by
 rw [List.length_map]
 exact Nat.le_trans (List.length_filter_le _ _) (by rw [List.length_range]; exact Nat.le_refl _)
theorem filter_next (q : Nat → Bool) (i : Nat) : ((List.range (i + 1)).filter q).map (fun t : Nat => (t : Int)) = if q i = true then ((List.range i).filter q).map (fun t : Nat => (t : Int)) ++ [(i : Int)] else ((List.range i).filter q).map (fun t : Nat => (t : Int)) := by
 rw [filter_range_succ]
 by_cases h : q i = true
 · rw [if_pos h, if_pos h, List.map_append]; rfl
 · rw [if_neg h, if_neg h]
abbrev Nd := S73
abbrev zN : Nd := z73
theorem rdN (xs : List Nd) (i : Nat) : rd_T73 xs (i : Int) = xs.getD i zN := by simp [rd_T73]
def ancS (tr : List Nd) : Nat → Int → List Int → List Int
 | 0, _, m => m
 | f + 1, i, m => if i < 0 then m else ancS tr f (tr.getD i.toNat zN).f0 (accS (tr.getD i.toNat zN).f2 m)
def Ups (tr : List Nd) : Prop := ∀ i, i < tr.length → -1 ≤ (tr.getD i zN).f0 ∧ (tr.getD i zN).f0 < (i : Int)
theorem ancS_app {tr : List Nd} (h : Ups tr) (x : Nd) : ∀ (f : Nat) (i : Int) (m : List Int), i < (tr.length : Int) → ancS (tr ++ [x]) f i m = ancS tr f i m
 | 0, _, _, _ => rfl
 | f + 1, i, m, hi => by
  unfold ancS
  by_cases c : i < 0
  ·rw [if_pos c, if_pos c]
  ·have hi2 : i.toNat < tr.length := by omega
   have := (h i.toNat hi2).2
   rw [if_neg c, if_neg c, getD_app, if_neg (by omega), ancS_app h x f _ _ (by omega)]
theorem ancS_len (tr : List Nd) : ∀ (f : Nat) (i : Int) (m : List Int), (ancS tr f i m).length = m.length
 | 0, _, _ => rfl
 | f + 1, i, m => by
  unfold ancS
  by_cases c : i < 0
  ·rw [if_pos c]
  ·rw [if_neg c, ancS_len tr f, accS_len]
theorem ancS_ge (tr : List Nd) : ∀ (f : Nat) (i : Int) (m : List Int), Le m (ancS tr f i m)
 | 0, _, _ => Le.refl _
 | f + 1, i, m => by
  unfold ancS
  by_cases c : i < 0
  ·rw [if_pos c]; exact Le.refl _
  ·rw [if_neg c]; exact (accS_ge _ _).trans (ancS_ge tr f _ _) (accS_len _ _).symm
theorem ancS_om (tr : List Nd) {n : Nat} : ∀ (f : Nat) (i : Int) (m : List Int), Om n m → Om n (ancS tr f i m)
 | 0, _, _, h => h
 | f + 1, i, m, h => by
  unfold ancS
  by_cases c : i < 0
  ·rw [if_pos c]; exact h
  ·rw [if_neg c]; exact ancS_om tr f _ _ (accS_om _ h)
theorem not_fin {a b : List Int} (h : ¬ Fin a) (hl : a.length = b.length) (k : Le a b) : ¬ Fin b := fun hb => h fun i hi e => by
 have h1 := k i hi
 have h2 := hb i (by omega)
 unfold le1 at h1
 omega
inductive Up (tr : List Nd) : Nat → Nat → Prop
 | refl (i : Nat) : Up tr i i
 | step {i j a : Nat} (h : (tr.getD i zN).f0 = (j : Int)) (k : Up tr j a) : Up tr i a
theorem ancS_cases (tr : List Nd) : ∀ (f : Nat) (i : Int) (m : List Int), ancS tr f i m = m ∨ (¬ Fin (ancS tr f i m) ∧ 0 ≤ i ∧ ∃ a, Up tr i.toNat a ∧ leqS (tr.getD a zN).f2 m = true ∧ ∃ p, p < m.length ∧ moreS (m.getD p 0) ((tr.getD a zN).f2.getD p 0) = true)
 | 0, _, _ => Or.inl rfl
 | f + 1, i, m => by
  unfold ancS
  by_cases c : i < 0
  ·rw [if_pos c]; exact Or.inl rfl
  ·rw [if_neg c]
   rcases accS_cases (tr.getD i.toNat zN).f2 m with e | ⟨h1, h2, h3⟩
   ·rw [e]
    rcases ancS_cases tr f (tr.getD i.toNat zN).f0 m with e2 | ⟨h1, h0, a, h2, h3⟩
    ·exact Or.inl e2
    ·exact Or.inr ⟨h1, by omega, a, Up.step (by omega) h2, h3⟩
   ·exact Or.inr ⟨not_fin h1 (ancS_len _ _ _ _).symm (ancS_ge _ _ _ _), by omega, i.toNat, Up.refl _, h2, h3⟩
structure TreeOk (ts : List Tra) (n : Nat) (m0 : List Int) (tr : List Nd) : Prop where
 ne : 0 < tr.length
 root : tr.getD 0 zN = ⟨-1, -1, m0, false⟩
 om : ∀ i, i < tr.length → Om n (tr.getD i zN).f2
 up : ∀ i, 0 < i → i < tr.length → ∃ j t : Nat, j < i ∧ (tr.getD i zN).f0 = (j : Int) ∧ (tr.getD i zN).f1 = (t : Int) ∧ t < ts.length ∧ Can (ts.getD t zT) (tr.getD j zN).f2 ∧ Fits (movS (ts.getD t zT) (tr.getD j zN).f2) ∧ (tr.getD i zN).f2 = ancS tr (j + 1) (j : Int) (movS (ts.getD t zT) (tr.getD j zN).f2)
 again : ∀ i, i < tr.length → ((tr.getD i zN).f3 = true ↔ ∃ j, j < i ∧ (tr.getD j zN).f2 = (tr.getD i zN).f2)
def Kids (ts : List Tra) (tr : List Nd) (i : Nat) : Prop := (tr.getD i zN).f3 = false → ∀ t, t < ts.length → Can (ts.getD t zT) (tr.getD i zN).f2 → Fits (movS (ts.getD t zT) (tr.getD i zN).f2) ∧ ∃ j, i < j ∧ j < tr.length ∧ (tr.getD j zN).f0 = (i : Int) ∧ (tr.getD j zN).f1 = (t : Int)
variable {ts : List Tra} {n : Nat} {m0 : List Int} {tr : List Nd}
theorem TreeOk.ups (h : TreeOk ts n m0 tr) : Ups tr := fun i hi => by
 by_cases c : 0 < i
 ·obtain ⟨j, t, h1, h2, _⟩ := h.up i c hi
  omega
 ·obtain rfl : i = 0 := by omega
  rw [h.root]
  exact ⟨Int.le_refl _, show (-1 : Int) < ((0 : Nat) : Int) by omega⟩
theorem TreeOk.one (h : Om n m0) : TreeOk ts n m0 [⟨-1, -1, m0, false⟩] := by
 refine ⟨by simp, rfl, fun i hi => ?_, fun i h0 hi => ?_, fun i hi => ?_⟩
 ·obtain rfl : i = 0 := by simp at hi; exact hi
  exact h
 ·simp at hi; omega
 ·obtain rfl : i = 0 := by simp at hi; exact hi
  exact ⟨fun h => by simp at h, fun ⟨j, hj, _⟩ => by omega⟩
theorem TreeOk.snoc (h : TreeOk ts n m0 tr) {i t : Nat} (hi : i < tr.length) (ht : t < ts.length) (hc : Can (ts.getD t zT) (tr.getD i zN).f2) (hf : Fits (movS (ts.getD t zT) (tr.getD i zN).f2))
  {m : List Int} (hm : m = ancS tr (i + 1) (i : Int) (movS (ts.getD t zT) (tr.getD i zN).f2)) (ho : Om n m) {b : Bool} (hb : b = true ↔ ∃ j, j < tr.length ∧ (tr.getD j zN).f2 = m) : TreeOk ts n m0 (tr ++ [⟨(i : Int), (t : Int), m, b⟩]) := by
 have old : ∀ j, j < tr.length → (tr ++ [(⟨(i : Int), (t : Int), m, b⟩ : Nd)]).getD j zN = tr.getD j zN := fun j hj => by rw [getD_app, if_neg (by omega)]
 have new : (tr ++ [(⟨(i : Int), (t : Int), m, b⟩ : Nd)]).getD tr.length zN = ⟨(i : Int), (t : Int), m, b⟩ := by rw [getD_app, if_pos rfl]
 have hl : ∀ j, j < (tr ++ [(⟨(i : Int), (t : Int), m, b⟩ : Nd)]).length → j < tr.length ∨ j = tr.length := fun j hj => by rw [List.length_append, List.length_singleton] at hj; omega
 refine ⟨by simp, by rw [old 0 h.ne, h.root], fun j hj => ?_, fun j h0 hj => ?_, fun j hj => ?_⟩
 ·rcases hl j hj with c | rfl
  ·rw [old j c]; exact h.om j c
  ·rw [new]; exact ho
 ·rcases hl j hj with c | rfl
  ·obtain ⟨p, t', h1, h2, h3, h4, h5, h6, h7⟩ := h.up j h0 c
   rw [old j c]
   refine ⟨p, t', h1, h2, h3, h4, ?_⟩
   rw [old p (by omega), ancS_app h.ups _ _ _ _ (by omega)]
   exact ⟨h5, h6, h7⟩
  ·rw [new]
   refine ⟨i, t, hi, rfl, rfl, ht, ?_⟩
   rw [old i hi, ancS_app h.ups _ _ _ _ (by omega)]
   exact ⟨hc, hf, hm⟩
 ·rcases hl j hj with c | rfl
  ·rw [old j c, h.again j c]
   exact ⟨fun ⟨x, h1, h2⟩ => ⟨x, h1, by rw [old x (by omega)]; exact h2⟩, fun ⟨x, h1, h2⟩ => ⟨x, h1, by rw [old x (by omega)] at h2; exact h2⟩⟩
  ·rw [new]
   simp only
   rw [hb]
   exact ⟨fun ⟨x, h1, h2⟩ => ⟨x, h1, by rw [old x h1]; exact h2⟩, fun ⟨x, h1, h2⟩ => ⟨x, h1, by rw [old x h1] at h2; exact h2⟩⟩
theorem Kids.snoc {i : Nat} (h : Kids ts tr i) (hi : i < tr.length) (x : Nd) : Kids ts (tr ++ [x]) i := by
 intro h3 t ht hc
 rw [getD_app, if_neg (by omega)] at h3 hc
 obtain ⟨h1, j, h2, h4, h5, h6⟩ := h h3 t ht hc
 rw [getD_app, if_neg (by omega)]
 refine ⟨h1, j, h2, by rw [List.length_append, List.length_singleton]; omega, ?_⟩
 rw [getD_app, if_neg (by omega)]
 exact ⟨h5, h6⟩
theorem TreeOk.firstOf (h : TreeOk ts n m0 tr) : ∀ (i : Nat), i < tr.length → ∃ j, j ≤ i ∧ (tr.getD j zN).f2 = (tr.getD i zN).f2 ∧ (tr.getD j zN).f3 = false := by
 intro i
 induction i using Nat.strongRecOn with
 | _ i ih =>
  intro hi
  cases e : (tr.getD i zN).f3 with
  | false => exact ⟨i, Nat.le_refl _, rfl, e⟩
  | true =>
   obtain ⟨j, h1, h2⟩ := (h.again i hi).1 e
   obtain ⟨x, h3, h4, h5⟩ := ih j h1 (by omega)
   exact ⟨x, by omega, by rw [h4, h2], h5⟩
def seenS (tr : List Nd) (m : List Int) : Bool := first (fun i => if (tr.getD i zN).f2 = m then some true else none) false tr.length
theorem seenS_iff {tr : List Nd} {m : List Int} : seenS tr m = true ↔ ∃ j, j < tr.length ∧ (tr.getD j zN).f2 = m := by
 unfold seenS
 rw [first_any]
 by_cases c : ∃ j, j < tr.length ∧ (tr.getD j zN).f2 = m
 · rw [if_pos c]; exact ⟨fun _ => c, fun _ => rfl⟩
 · rw [if_neg c]; exact ⟨fun h => (by cases h), fun h => absurd h c⟩
def Arcs (np : Int) (ts : List Tra) : Prop := ∀ t, t < ts.length → arcsE np (ts.getD t zT).f1 = 0 ∧ arcsE np (ts.getD t zT).f2 = 0
def Cov (tr : List Nd) (m : List Int) : Prop := ∃ i, i < tr.length ∧ Le m (tr.getD i zN).f2
theorem Cov.step {np : Int} (h : TreeOk ts n m0 tr) (ha : Arcs np ts) (hk : ∀ i, i < tr.length → Kids ts tr i) {m : List Int} (hm : m.length = n) (hf : Fin m) (h0 : Cov tr m) {t : Nat} (ht : t < ts.length) (hc : Can (ts.getD t zT) m) : Cov tr (movS (ts.getD t zT) m) := by
 obtain ⟨i, hi, hle⟩ := h0
 obtain ⟨j, h1, h2, h3⟩ := h.firstOf i hi
 rw [← h2] at hle
 have ho := h.om j (by omega)
 have hl : m.length = (tr.getD j zN).f2.length := by rw [hm, ho.len]
 have hc2 := hc.mono hl hf hle
 obtain ⟨_, c, h4, h5, h6, h7⟩ := hk j (by omega) h3 t ht hc2
 obtain ⟨j', t', k1, k2, k3, k4, k5, k6, k7⟩ := h.up c (by omega) h5
 obtain rfl : j' = j := by omega
 obtain rfl : t' = t := by omega
 refine ⟨c, h5, ?_⟩
 rw [k7]
 exact (movS_mono hl hc (ha t' ht).1 (ha t' ht).2 hle).trans (ancS_ge _ _ _ _) (by rw [movS_len, movS_len]; exact hl)
structure Closed (ts : List Tra) (n : Nat) (m0 : List Int) (l : List (List Int)) : Prop where
 first : m0 ∈ l
 om : ∀ m ∈ l, Om n m ∧ Fin m
 next : ∀ m ∈ l, ∀ t, t < ts.length → Can (ts.getD t zT) m → movS (ts.getD t zT) m ∈ l
theorem movS_fin {np : Int} {t : Tra} (h2 : arcsE np t.f2 = 0) {m : List Int} (hf : Fin m) (hc : Can t m) : Fin (movS t m) := fun i hi => by
 rw [movS_len] at hi
 rw [movS_get t m hi, if_neg (hf i hi)]
 have := weight_nn h2 (i : Int)
 rcases hc i hi with e | e
 · exact absurd e (hf i hi)
 · omega
theorem TreeOk.exact (h : TreeOk ts n m0 tr) {i j t : Nat} (hf : Fin (tr.getD i zN).f2) (he : (tr.getD i zN).f2 = ancS tr (j + 1) (j : Int) (movS (ts.getD t zT) (tr.getD j zN).f2)) : (tr.getD i zN).f2 = movS (ts.getD t zT) (tr.getD j zN).f2 := by
 rcases ancS_cases tr (j + 1) (j : Int) (movS (ts.getD t zT) (tr.getD j zN).f2) with e | ⟨e, _⟩
 · rw [he, e]
 · exact absurd (by rw [← he]; exact hf) e
theorem TreeOk.inClosed (h : TreeOk ts n m0 tr) {l : List (List Int)} (hl : Closed ts n m0 l) {b : Nat} (hb : b ≤ tr.length) (hf : ∀ i, i < b → Fin (tr.getD i zN).f2) : ∀ i, i < b → (tr.getD i zN).f2 ∈ l := by
 intro i
 induction i using Nat.strongRecOn with
 | _ i ih =>
  intro hi
  by_cases c : 0 < i
  ·obtain ⟨j, t, h1, h2, h3, h4, h5, h6, h7⟩ := h.up i c (by omega)
   rw [h.exact (hf i hi) h7]
   exact hl.next _ (ih j h1 (by omega)) t h4 h5
  ·obtain rfl : i = 0 := by omega
   rw [h.root]; exact hl.first
theorem mem_markings {tr : List Nd} {m : List Int} : m ∈ tr.map (·.f2) ↔ ∃ i, i < tr.length ∧ (tr.getD i zN).f2 = m := by
 constructor
 ·intro h
  obtain ⟨x, hx, rfl⟩ := List.mem_map.1 h
  obtain ⟨i, hi, rfl⟩ := List.getElem_of_mem hx
  exact ⟨i, hi, by rw [List.getD_eq_getElem?_getD, List.getElem?_eq_getElem hi]; rfl⟩
 ·rintro ⟨i, hi, rfl⟩
  exact List.mem_map.2 ⟨_, getD_mem tr zN hi, rfl⟩
theorem TreeOk.closed (h : TreeOk ts n m0 tr) (hk : ∀ i, i < tr.length → Kids ts tr i) (hf : ∀ i, i < tr.length → Fin (tr.getD i zN).f2) : Closed ts n m0 (tr.map (·.f2)) := by
 refine ⟨mem_markings.2 ⟨0, h.ne, by rw [h.root]⟩, fun m hm => ?_, fun m hm t ht hc => ?_⟩
 ·obtain ⟨i, hi, rfl⟩ := mem_markings.1 hm
  exact ⟨h.om i hi, hf i hi⟩
 ·obtain ⟨i, hi, rfl⟩ := mem_markings.1 hm
  obtain ⟨j, h1, h2, h3⟩ := h.firstOf i hi
  rw [← h2] at hc ⊢
  obtain ⟨_, c, h4, h5, h6, h7⟩ := hk j (by omega) h3 t ht hc
  obtain ⟨j', t', k1, k2, k3, k4, k5, k6, k7⟩ := h.up c (by omega) h5
  obtain rfl : j' = j := by omega
  obtain rfl : t' = t := by omega
  exact mem_markings.2 ⟨c, h5, h.exact (hf c h5) k7⟩
inductive Run (ts : List Tra) (a : List Int) : List Int → Prop
 | refl : Run ts a a
 | step {b : List Int} {t : Nat} (h : Run ts a b) (ht : t < ts.length) (hc : Can (ts.getD t zT) b) : Run ts a (movS (ts.getD t zT) b)
theorem Run.trans {a b c : List Int} (h : Run ts a b) (k : Run ts b c) : Run ts a c := by
 induction k with
 | refl => exact h
 | step _ ht hc ih => exact ih.step ht hc
theorem Run.len {a b : List Int} (h : Run ts a b) : b.length = a.length := by
 induction h with
 | refl => rfl
 | step _ _ _ ih => rw [movS_len, ih]
theorem Run.shift {np : Int} (ha : Arcs np ts) {l : List (List Int)} (hl : Closed ts n m0 l) {a b a' : List Int} (h : Run ts a b) (hfa : Fin a) (hn : a.length = n) (ha' : a' ∈ l) (hle : ∀ i, i < n → a.getD i 0 ≤ a'.getD i 0) :
  Fin b ∧ ∃ b', b' ∈ l ∧ ∀ i, i < n → b'.getD i 0 = b.getD i 0 + (a'.getD i 0 - a.getD i 0) := by
 induction h with
 | refl => exact ⟨hfa, a', ha', fun i hi => by omega⟩
 | @step b t hr ht hc ih =>
  obtain ⟨fb, b', hb', e⟩ := ih
  have lb : b.length = n := by rw [hr.len, hn]
  obtain ⟨ob, fb'⟩ := hl.om b' hb'
  have hc' : Can (ts.getD t zT) b' := fun p hp => by
   have hp' : p < n := by rw [← ob.len]; exact hp
   have h1 := hc p (by omega)
   have h2 := fb p (by omega)
   have h3 := e p hp'
   have h4 := hle p hp'
   omega
  refine ⟨movS_fin (ha t ht).2 fb hc, _, hl.next b' hb' t ht hc', fun i hi => ?_⟩
  have hi1 : i < b'.length := by rw [ob.len]; exact hi
  have hi2 : i < b.length := by omega
  have h3 := e i hi
  rw [movS_get _ _ hi1, movS_get _ _ hi2, if_neg (fb i hi2), if_neg (fb' i hi1)]
  omega
theorem Run.grows {np : Int} (ha : Arcs np ts) {l : List (List Int)} (hl : Closed ts n m0 l) {a b : List Int} (h : Run ts a b) (hia : a ∈ l) (hle : ∀ i, i < n → a.getD i 0 ≤ b.getD i 0) {p : Nat} (hp : p < n) (hlt : a.getD p 0 < b.getD p 0) : False := by
 have go : ∀ k : Nat, ∃ x, x ∈ l ∧ ∀ i, i < n → a.getD i 0 ≤ x.getD i 0 ∧ (i = p → a.getD i 0 + (k : Int) ≤ x.getD i 0) := by
  intro k
  induction k with
  | zero => exact ⟨a, hia, fun i hi => ⟨Int.le_refl _, fun _ => by omega⟩⟩
  | succ k ih =>
   obtain ⟨x, hx, e⟩ := ih
   obtain ⟨_, y, hy, ey⟩ := h.shift ha hl (hl.om a hia).2 (hl.om a hia).1.len hx (fun i hi => (e i hi).1)
   refine ⟨y, hy, fun i hi => ?_⟩
   have h1 := ey i hi
   have h2 := e i hi
   have h3 := hle i hi
   refine ⟨by omega, fun c => ?_⟩
   subst c
   have := h2.2 rfl
   omega
 obtain ⟨x, hx, e⟩ := go 1048578
 have h1 := (e p hp).2 rfl
 have h2 := (hl.om x hx).1.cases hp
 have h3 := (hl.om a hia).1.cases hp
 omega
theorem TreeOk.run (h : TreeOk ts n m0 tr) {b : Nat} (hb : b ≤ tr.length) (hf : ∀ i, i < b → Fin (tr.getD i zN).f2) {i a : Nat} (hu : Up tr i a) : i < b → Run ts (tr.getD a zN).f2 (tr.getD i zN).f2 ∧ a < b := by
 induction hu with
 | refl i => exact fun hi => ⟨Run.refl, hi⟩
 | @step i j a he _ ih =>
  intro hi
  have h0 : 0 < i := by
   by_cases c : 0 < i
   ·exact c
   ·obtain rfl : i = 0 := by omega
    rw [h.root] at he
    simp only at he
    omega
  obtain ⟨j', t, h1, h2, h3, h4, h5, h6, h7⟩ := h.up i h0 (by omega)
  obtain rfl : j' = j := by omega
  obtain ⟨k1, k2⟩ := ih (by omega)
  refine ⟨?_, k2⟩
  rw [h.exact (hf i hi) h7]
  exact k1.step h4 h5
theorem TreeOk.open {np : Int} (ha : Arcs np ts) (h : TreeOk ts n m0 tr) (h0 : Fin m0) {i : Nat} (hi : i < tr.length) (hn : ¬ Fin (tr.getD i zN).f2) {l : List (List Int)} (hl : Closed ts n m0 l) : False := by
 induction i using Nat.strongRecOn with
 | _ i ih =>
  by_cases c : ∃ j, j < i ∧ ¬ Fin (tr.getD j zN).f2
  ·obtain ⟨j, h1, h2⟩ := c
   exact ih j h1 (by omega) h2
  ·have hf : ∀ j, j < i → Fin (tr.getD j zN).f2 := fun j hj => Classical.byContradiction fun x => c ⟨j, hj, x⟩
   have hpos : 0 < i := by
    by_cases c : 0 < i
    ·exact c
    ·obtain rfl : i = 0 := by omega
     exact absurd (by rw [h.root]; exact h0) hn
   obtain ⟨j, t, h1, h2, h3, h4, h5, h6, h7⟩ := h.up i hpos hi
   have fj := hf j h1
   have fm := movS_fin (ha t h4).2 fj h5
   rcases ancS_cases tr (j + 1) (j : Int) (movS (ts.getD t zT) (tr.getD j zN).f2) with e | ⟨_, _, a, u, hq, p, hp, hm⟩
   ·exact absurd (by rw [h7, e]; exact fm) hn
   ·rw [Int.toNat_natCast] at u
    obtain ⟨r1, r2⟩ := h.run (Nat.le_of_lt hi) hf u h1
    have r3 := r1.step h4 h5
    have lm : (movS (ts.getD t zT) (tr.getD j zN).f2).length = n := by rw [movS_len, (h.om j (by omega)).len]
    obtain ⟨q1, q2, q3⟩ := leqS_iff.1 hq
    have fa := hf a r2
    have la : (tr.getD a zN).f2.length = n := (h.om a (by omega)).len
    have hin := h.inClosed hl (Nat.le_of_lt hi) hf a r2
    refine r3.grows ha hl hin (fun x hx => ?_) (p := p) (by omega) ?_
    ·have y1 := q3 x (by omega)
     have y2 := fm x (by omega)
     unfold le1 at y1
     omega
    ·have y2 := fm p hp
     have y3 := fa p (by omega)
     unfold moreS at hm
     rw [if_neg (by omega)] at hm
     have := of_dec hm
     omega
def wt (l : List Ac) (i : Nat) (p : Int) : Int := first (fun j => if (l.getD j zA).f0 = p then some (l.getD j zA).f1 else none) 0 i
theorem wt_all (l : List Ac) (p : Int) : wt l l.length p = weightS l p := rfl
theorem wt_zero (l : List Ac) (p : Int) : wt l 0 p = 0 := rfl
theorem wt_none {l : List Ac} {i : Nat} {p : Int} (h : ∀ j, j < i → (l.getD j zA).f0 ≠ p) : wt l i p = 0 := first_all (fun j hj => if_neg (h j hj))
theorem wt_hit {l : List Ac} {np : Int} (h : arcsE np l = 0) {i : Nat} (hi : i < l.length) : wt l i (l.getD i zA).f0 = 0 := wt_none (fun j hj e => by have := arcs_lt h hj hi; omega)
theorem wt_at {l : List Ac} {np : Int} (h : arcsE np l = 0) {i : Nat} (hi : i < l.length) {n : Nat} (hn : i < n) : wt l n (l.getD i zA).f0 = (l.getD i zA).f1 :=
 first_at i hn (if_pos rfl) (fun j hj => if_neg (fun e => by have := arcs_lt h hj hi; omega))
theorem wt_succ {l : List Ac} {i : Nat} {p : Int} (h : (l.getD i zA).f0 ≠ p) : wt l (i + 1) p = wt l i p := by
 unfold wt
 rcases qCP (fun j => if (l.getD j zA).f0 = p then some (l.getD j zA).f1 else none) (0 : Int) i with ⟨h1, h2⟩ | ⟨j, h1, h2, h3⟩
 ·rw [h1]
  refine first_all (fun j hj => ?_)
  by_cases c : j = i
  ·subst c; exact if_neg h
  ·exact h2 j (by omega)
 ·refine first_at j (by omega) h2 h3
theorem weight_at {l : List Ac} {np : Int} (h : arcsE np l = 0) {i : Nat} (hi : i < l.length) : weightS l (l.getD i zA).f0 = (l.getD i zA).f1 := wt_at h hi hi
theorem weight_none {l : List Ac} {p : Int} (h : ∀ j, j < l.length → (l.getD j zA).f0 ≠ p) : weightS l p = 0 := wt_none h
theorem arc_place {np : Nat} {l : List Ac} (h : arcsE (np : Int) l = 0) {i : Nat} (hi : i < l.length) : ∃ p : Nat, p < np ∧ (l.getD i zA).f0 = (p : Int) ∧ 1 ≤ (l.getD i zA).f1 ∧ (l.getD i zA).f1 ≤ 99 := by
 obtain ⟨h1, h2, h3, h4, h5⟩ := arcsE_zero h i hi
 exact ⟨(l.getD i zA).f0.toNat, by omega, by omega, h4, h5⟩
theorem kfits_ev (nm : ByteArray) {ps : List Pla} {ts : List Tra} (hp : ps.length ≤ 1000000) (ht : ts.length ≤ 1000000) (hT : Thin ts) {m : List Int} (hm : m.length ≤ 17592186043904) : Ev (fun k => qAJ.f k nm ps ts m) (fitsS (validS nm ps ts) ps ts m) := by
 unfold qAJ.f fitsS
 refine Ev.bind (plain_ev nm hp ht hT) ?_
 by_cases h : plainS (validS nm ps ts) ps ts = true
 ·simp only [h, ↓reduceIte]
  exact Ev.bind (omvalid_ev m _ hm) (Ev.some _)
 ·simp only [h]; exact Ev.some _
theorem can_arcs {t : Tra} {n : Nat} {m : List Int} (h : Om n m) (h1 : arcsE (n : Int) t.f1 = 0) : Can t m ↔ ∀ i, i < t.f1.length → ¬ (m.getD (t.f1.getD i zA).f0.toNat 0 ≠ -1 ∧ m.getD (t.f1.getD i zA).f0.toNat 0 < (t.f1.getD i zA).f1) := by
 constructor
 ·intro hc i hi
  obtain ⟨p, hp, e, _, _⟩ := arc_place h1 hi
  have := hc p (by rw [h.len]; exact hp)
  rw [← e, weight_at h1 hi] at this
  rw [e, Int.toNat_natCast]
  omega
 ·intro hc p hp
  by_cases c : ∃ i, i < t.f1.length ∧ (t.f1.getD i zA).f0 = (p : Int)
  ·obtain ⟨i, hi, e⟩ := c
   have := hc i hi
   have w := weight_at h1 hi
   rw [e] at w this
   rw [Int.toNat_natCast] at this
   rw [w]
   omega
  ·rw [weight_none (fun j hj e => c ⟨j, hj, e⟩)]
   have := h.cases (i := p) (by rw [← h.len]; exact hp)
   omega
theorem kenabled_ev (t : Tra) {n : Nat} {m : List Int} (h : Om n m) (h1 : arcsE (n : Int) t.f1 = 0) (hl : t.f1.length ≤ 1000000) : Ev (fun k => qAF.f k t.f0 t.f1 t.f2 t.f3 t.f4 m) (canS t m) := by
 have e : canS t m = first (fun i => if m.getD (t.f1.getD i zA).f0.toNat 0 ≠ -1 ∧ m.getD (t.f1.getD i zA).f0.toNat 0 < (t.f1.getD i zA).f1 then some false else none) true t.f1.length := by
  rw [first_any]
  by_cases c : Can t m
  ·rw [canS_iff.2 c, if_neg]
   rintro ⟨i, hi, x⟩
   exact (can_arcs h h1).1 c i hi x
  ·have : canS t m = false := by cases e : canS t m with | false => rfl | true => exact absurd (canS_iff.1 e) c
   rw [this, if_pos]
   apply Classical.byContradiction
   intro x
   exact c ((can_arcs h h1).2 (fun i hi y => x ⟨i, hi, y⟩))
 rw [e]
 unfold qAF.f
 refine Ev_loop (L := fun k i => qAF.l0 k m t.f1 (t.f1.length : Int) (i : Int)) 1 _ (fun k i hi => ?_) (Ev.one (fun k => by simp only [qAF.l0]; rw [if_neg (by omega)]))
 obtain ⟨p, hp, e, _, _⟩ := arc_place h1 hi
 simp only [qAF.l0, lt_int hi, nn, ↓reduceIte, rdA, wrap_up hi (by omega : t.f1.length ≤ 9223372036854775807), e, Int.toNat_natCast, rd_nat, lt_int (show p < m.length by rw [h.len]; exact hp)]
 by_cases c : m.getD p 0 = -1
 ·simp only [c, ↓reduceIte, ne_eq, not_true_eq_false, false_and]; rfl
 ·by_cases d : m.getD p 0 < (t.f1.getD i zA).f1
  ·simp only [c, d, ↓reduceIte, ne_eq, not_false_eq_true, true_and, and_self]; rfl
  ·simp only [c, d, ↓reduceIte, ne_eq, not_false_eq_true, true_and, and_false]; rfl
theorem fitsS_om {v : Bool} {ps : List Pla} {ts : List Tra} {m : List Int} (h : fitsS v ps ts m = true) : plainS v ps ts = true ∧ Om ps.length m := by
 unfold fitsS at h
 by_cases c : plainS v ps ts = true
 · rw [if_pos c] at h; exact ⟨c, omS_iff.1 h⟩
 · rw [if_neg c] at h; cases h
theorem plain_valid {v : Bool} {ps : List Pla} {ts : List Tra} (h : plainS v ps ts = true) : v = true := by
 rw [plain_swap] at h
 cases v with
 | true => rfl
 | false => simp at h
theorem kEnabled_ev (nm : ByteArray) {ps : List Pla} {ts : List Tra} (hp : ps.length ≤ 1000000) (ht : ts.length ≤ 1000000) (hT : Thin ts) {m : List Int} (hm : m.length ≤ 17592186043904) : Ev (fun k => qAE.f k nm ps ts m) (enabS (validS nm ps ts) ps ts m) := by
 unfold qAE.f enabS
 refine Ev.bind (kfits_ev nm hp ht hT hm) ?_
 by_cases h : fitsS (validS nm ps ts) ps ts m = true
 ·simp only [h, ↓reduceIte]
  obtain ⟨h1, h2⟩ := fitsS_om h
  have hV := validS_iff.1 (plain_valid h1)
  refine Ev_up (L := fun k i => qAE.l0 k m (((List.range i).filter (fun t => canS (ts.getD t zT) m)).map (fun t : Nat => (t : Int))) ts (ts.length : Int) (i : Int)) (n := ts.length) (fun i hi hr => ?_) (Ev.one (fun k => by simp only [qAE.l0]; rw [if_neg (by omega)]))
  refine Ev.up ?_
  have fl := filter_len (fun t => canS (ts.getD t zT) m) i
  simp only [qAE.l0, lt_int hi, nn, ↓reduceIte, rdT, wrap_up hi (by omega : ts.length ≤ 9223372036854775807), show (((List.range i).filter (fun t => canS (ts.getD t zT) m)).map (fun t : Nat => (t : Int))).length < 17592186044416 by omega]
  refine Ev.bind (kenabled_ev (ts.getD i zT) h2 (hV.arcs hi).2.1 (hT.at hi).2.1) ?_
  rw [filter_next] at hr
  by_cases c : canS (ts.getD i zT) m = true
  ·simp only [c, ↓reduceIte] at hr ⊢; exact hr
  ·simp only [c] at hr ⊢; exact hr
 ·simp only [h]; exact Ev.some _
def mv1 (t : Tra) (m : List Int) (i : Nat) : List Int := mr m.length (fun p => if m.getD p 0 = -1 then -1 else m.getD p 0 - wt t.f1 i (p : Int))
def mv2 (t : Tra) (m : List Int) (i : Nat) : List Int := mr m.length (fun p => if m.getD p 0 = -1 then -1 else m.getD p 0 - weightS t.f1 (p : Int) + wt t.f2 i (p : Int))
theorem mr_id (m : List Int) : mr m.length (fun p => m.getD p 0) = m := ext0 (by rw [mr_len]) (fun i hi => by rw [mr_len] at hi; rw [mr_get _ _ hi])
theorem move_ev (t : Tra) {n : Nat} {m : List Int} (h : Om n m) (h1 : arcsE (n : Int) t.f1 = 0) (h2 : arcsE (n : Int) t.f2 = 0) (hl1 : t.f1.length ≤ 1000000) (hl2 : t.f2.length ≤ 1000000) (hc : Can t m) (hn : n ≤ 17592186043904) :
  Ev (fun k => qAD.f k t.f0 t.f1 t.f2 t.f3 t.f4 m) (goS t m) := by
 unfold qAD.f
 have hm : m.length ≤ 17592186043904 := by rw [h.len]; exact hn
 simp only [nn, Int.toNat_natCast, show m.length ≤ 35184372088832 by omega, ↓reduceIte, cpy_same]
 have z : mv1 t m 0 = m := by
  unfold mv1
  refine Eq.trans (mr_congr fun p hp => ?_) (mr_id m)
  rw [wt_zero]
  by_cases c : m.getD p 0 = -1
  ·rw [if_pos c, c]
  ·rw [if_neg c]; omega
 have val : ∀ p, p < m.length → m.getD p 0 ≠ -1 → 0 ≤ m.getD p 0 ∧ m.getD p 0 ≤ 1048576 := fun p hp c => by
  have := h.cases (i := p) (by rw [← h.len]; exact hp)
  omega
 have first_ : ∀ r, Ev (fun k => qAD.l1 k (mv2 t m 0) t.f2 (t.f2.length : Int) 0) r → Ev (fun k => qAD.l0 k m t.f1 (t.f1.length : Int) 0 t.f0 t.f1 t.f2 t.f3 t.f4) r := by
  intro r hr
  have := Ev_up (L := fun k i => qAD.l0 k (mv1 t m i) t.f1 (t.f1.length : Int) (i : Int) t.f0 t.f1 t.f2 t.f3 t.f4) (n := t.f1.length) (r := r) (fun i hi hr => by
   refine Ev.up ?_
   obtain ⟨p, hp, e, w1, w2⟩ := arc_place h1 hi
   have hp2 : p < m.length := by rw [h.len]; exact hp
   have hw := wt_hit h1 hi
   have hw2 := wt_at h1 hi (Nat.lt_succ_self i)
   rw [e] at hw hw2
   have g : (mv1 t m i).getD p 0 = if m.getD p 0 = -1 then -1 else m.getD p 0 := by
    rw [mv1, mr_get _ _ hp2, hw]
    by_cases c : m.getD p 0 = -1
    ·rw [if_pos c, if_pos c]
    ·rw [if_neg c, if_neg c]; omega
   simp only [qAD.l0, lt_int hi, nn, ↓reduceIte, rdA, wrap_up hi (by omega : t.f1.length ≤ 9223372036854775807), e, Int.toNat_natCast, rd_nat, show (mv1 t m i).length = m.length from mr_len _ _, lt_int hp2, g]
   have same : ∀ v, v < m.length → v ≠ p → (if m.getD v 0 = -1 then (-1 : Int) else m.getD v 0 - wt t.f1 i (v : Int)) = if m.getD v 0 = -1 then -1 else m.getD v 0 - wt t.f1 (i + 1) (v : Int) := fun v _ c => by
    rw [wt_succ (by rw [e]; omega)]
   by_cases c : m.getD p 0 = -1
   ·simp only [c, ↓reduceIte]
    refine Ev.congr (fun k => ?_) hr
    congr 1
    refine mr_congr fun v hv => ?_
    by_cases d : v = p
    ·subst d; rw [if_pos c, if_pos c]
    ·exact same v hv d
   ·have vp := val p hp2 c
    simp only [c, ↓reduceIte]
    refine Ev.congr (fun k => ?_) hr
    congr 1
    unfold mv1
    rw [mr_set]
    refine mr_congr fun v hv => ?_
    by_cases d : v = p
    ·subst d; rw [if_pos rfl, if_neg c, hw2, wrap_ok (by omega) (by omega)]
    ·rw [if_neg d]; exact same v hv d)
   (by
    refine Ev.up ?_
    simp only [qAD.l0]
    refine Ev.congr (fun k => ?_) hr
    rw [if_neg (by omega)]
    congr 1
    unfold mv1 mv2
    refine mr_congr fun p hp => ?_
    rw [wt_all, wt_zero]
    by_cases c : m.getD p 0 = -1
    ·rw [if_pos c, if_pos c]
    ·rw [if_neg c, if_neg c]; omega)
  rw [z] at this
  exact this
 refine first_ _ ?_
 have fin : mv2 t m t.f2.length = movS t m := rfl
 have vp2 : ∀ p, p < m.length → m.getD p 0 ≠ -1 → 0 ≤ m.getD p 0 - weightS t.f1 (p : Int) ∧ m.getD p 0 - weightS t.f1 (p : Int) ≤ 1048576 := fun p hp c => by
  have a := val p hp c
  have b := hc p hp
  have w := weight_nn h1 (p : Int)
  omega
 have main := Ev_first (L := fun k i => qAD.l1 k (mv2 t m i) t.f2 (t.f2.length : Int) (i : Int)) (n := t.f2.length)
  (fun i => if (movS t m).getD (t.f2.getD i zA).f0.toNat 0 > 1048576 then some (([] : List Int), false) else none) (e := (movS t m, true)) ?_ ?_ ?_
 ·refine Eq.mp ?_ main
  congr 1
  unfold goS
  rw [first_any]
  by_cases c : overS (movS t m) = true
  ·rw [if_pos c, if_pos]
   apply Classical.byContradiction
   intro x
   have : overS (movS t m) = false := overS_iff.2 fun p hp => by
    rw [movS_len] at hp
    by_cases d : ∃ i, i < t.f2.length ∧ (t.f2.getD i zA).f0 = (p : Int)
    ·obtain ⟨i, hi, e⟩ := d
     apply Classical.byContradiction
     intro y
     exact x ⟨i, hi, by rw [e, Int.toNat_natCast]; omega⟩
    ·rw [movS_get t m hp, weight_none (l := t.f2) (fun j hj e => d ⟨j, hj, e⟩)]
     by_cases c : m.getD p 0 = -1
     ·rw [if_pos c]; omega
     ·rw [if_neg c]
      have := vp2 p hp c
      omega
   rw [this] at c; cases c
  ·have c2 : overS (movS t m) = false := by cases e : overS (movS t m) with | false => rfl | true => exact absurd e c
   rw [if_neg c, if_neg]
   rintro ⟨i, hi, x⟩
   obtain ⟨p, hp, e, _, _⟩ := arc_place h2 hi
   have := overS_iff.1 c2 p (by rw [movS_len, h.len]; exact hp)
   rw [e, Int.toNat_natCast] at x
   omega
 all_goals
  have step : ∀ i, i < t.f2.length → ∀ r, (if (movS t m).getD (t.f2.getD i zA).f0.toNat 0 > 1048576 then r = (([] : List Int), false) else Ev (fun k => qAD.l1 k (mv2 t m (i + 1)) t.f2 (t.f2.length : Int) ((i + 1 : Nat) : Int)) r) → Ev (fun k => qAD.l1 k (mv2 t m i) t.f2 (t.f2.length : Int) (i : Int)) r := by
   intro i hi r hr
   refine Ev.up ?_
   obtain ⟨p, hp, e, w1, w2⟩ := arc_place h2 hi
   have hp2 : p < m.length := by rw [h.len]; exact hp
   have hw := wt_hit h2 hi
   have hw2 := wt_at h2 hi (Nat.lt_succ_self i)
   have hw3 := weight_at h2 hi
   rw [e] at hw hw2 hw3
   have g : (mv2 t m i).getD p 0 = if m.getD p 0 = -1 then -1 else m.getD p 0 - weightS t.f1 (p : Int) := by
    rw [mv2, mr_get _ _ hp2, hw]
    by_cases c : m.getD p 0 = -1
    ·rw [if_pos c, if_pos c]
    ·rw [if_neg c, if_neg c]; omega
   rw [e, Int.toNat_natCast, movS_get t m hp2, hw3] at hr
   simp only [qAD.l1, lt_int hi, nn, ↓reduceIte, rdA, wrap_up hi (by omega : t.f2.length ≤ 9223372036854775807), e, Int.toNat_natCast, rd_nat, show (mv2 t m i).length = m.length from mr_len _ _, lt_int hp2, g]
   have same : ∀ v, v < m.length → v ≠ p → (if m.getD v 0 = -1 then (-1 : Int) else m.getD v 0 - weightS t.f1 (v : Int) + wt t.f2 i (v : Int)) = if m.getD v 0 = -1 then -1 else m.getD v 0 - weightS t.f1 (v : Int) + wt t.f2 (i + 1) (v : Int) := fun v _ c => by
    rw [wt_succ (by rw [e]; omega)]
   by_cases c : m.getD p 0 = -1
   ·simp only [c, ↓reduceIte, show ¬ ((-1 : Int) > 1048576) by omega] at hr ⊢
    refine Ev.congr (fun k => ?_) hr
    congr 1
    refine mr_congr fun v hv => ?_
    by_cases d : v = p
    ·subst d; rw [if_pos c, if_pos c]
    ·exact same v hv d
   ·have v2 := vp2 p hp2 c
    have w : m.getD p 0 - weightS t.f1 (p : Int) ≠ -1 := by omega
    simp only [c, w, ↓reduceIte, wrap_ok (x := m.getD p 0 - weightS t.f1 (p : Int) + (t.f2.getD i zA).f1) (by omega) (by omega)] at hr ⊢
    by_cases d : m.getD p 0 - weightS t.f1 (p : Int) + (t.f2.getD i zA).f1 > 1048576
    ·simp only [d, ↓reduceIte] at hr ⊢
     rw [hr]; exact Ev.some _
    ·simp only [d, ↓reduceIte] at hr ⊢
     refine Ev.congr (fun k => ?_) hr
     congr 1
     unfold mv2
     rw [mr_set]
     refine mr_congr fun v hv => ?_
     by_cases d : v = p
     ·subst d; rw [if_pos rfl, if_neg c, hw2]
     ·rw [if_neg d]; exact same v hv d
 ·intro i hi hp r hr
  refine step i hi r ?_
  have : ¬ (movS t m).getD (t.f2.getD i zA).f0.toNat 0 > 1048576 := fun x => by rw [if_pos x] at hp; cases hp
  rw [if_neg this]; exact hr
 ·intro i r hi hp
  refine step i hi r ?_
  by_cases x : (movS t m).getD (t.f2.getD i zA).f0.toNat 0 > 1048576
  ·rw [if_pos x] at hp ⊢; exact (Option.some.inj hp).symm
  ·rw [if_neg x] at hp; cases hp
 ·refine Ev.one (fun k => ?_)
  simp only [qAD.l1]
  rw [if_neg (by omega)]
  rfl
theorem kFire_ev (nm : ByteArray) {ps : List Pla} {ts : List Tra} (hp : ps.length ≤ 1000000) (ht : ts.length ≤ 1000000) (hT : Thin ts) {m : List Int} (hm : m.length ≤ 17592186043904) (t : Int) : Ev (fun k => qAK.f k nm ps ts m t) (fireS (validS nm ps ts) ps ts m t) := by
 unfold qAK.f fireS
 refine Ev.bind (kfits_ev nm hp ht hT hm) ?_
 by_cases h : fitsS (validS nm ps ts) ps ts m = true
 ·simp only [h, ↓reduceIte]
  obtain ⟨h1, h2⟩ := fitsS_om h
  have hV := validS_iff.1 (plain_valid h1)
  by_cases c : t < 0 ∨ t ≥ (ts.length : Int)
  ·rw [if_pos c]
   rcases c with c | c
   ·simp only [c, ↓reduceIte]; exact Ev.some _
   ·simp only [show ¬ (t < 0) by omega, c, ↓reduceIte]; exact Ev.some _
  ·obtain ⟨j, rfl⟩ : ∃ j : Nat, t = (j : Int) := ⟨t.toNat, by omega⟩
   have hj : j < ts.length := by omega
   have hA := hV.arcs hj
   have hB := hT.at hj
   rw [if_neg c]
   simp only [show ¬ ((j : Int) < 0) by omega, show ¬ ((j : Int) ≥ (ts.length : Int)) by omega, nn, lt_int hj, ↓reduceIte, rdT, Int.toNat_natCast]
   refine Ev.bind (kenabled_ev (ts.getD j zT) h2 hA.2.1 hB.2.1) ?_
   by_cases d : canS (ts.getD j zT) m = true
   ·simp only [d, ↓reduceIte]
    exact Ev.bind (move_ev (ts.getD j zT) h2 hA.2.1 hA.2.2.1 hB.2.1 hB.2.2.1 (canS_iff.1 d) (by omega)) (Ev.some _)
   ·simp only [d]; exact Ev.some _
 ·simp only [h]; exact Ev.some _
theorem kequal_ev (a b : List Int) (ha : a.length ≤ 17592186043904) : Ev (fun k => qAH.f k a b) (decide (a = b)) := by
 unfold qAH.f
 by_cases h : (a.length : Int) = (b.length : Int)
 ·simp only [h, ↓reduceIte]
  rw [← h]
  have hl : a.length = b.length := by omega
  have := Ev_loop (L := fun k i => qAH.l0 k b a (a.length : Int) (i : Int)) (n := a.length) 1 (fun i => if a.getD i 0 = b.getD i 0 then none else some false) (e := true) (fun k i hi => by
   simp only [qAH.l0, lt_int hi, nn, ↓reduceIte, rd_nat, lt_int (show i < b.length by omega), wrap_up hi (by omega : a.length ≤ 9223372036854775807)]
   by_cases c : a.getD i 0 = b.getD i 0
   ·simp only [c, ↓reduceIte]; rfl
   ·simp only [c, fun x : b.getD i 0 = a.getD i 0 => c x.symm, show ¬ (b.getD i 0 = a.getD i 0) from fun x => c x.symm, ↓reduceIte]; rfl) (Ev.one (fun k => by simp only [qAH.l0]; rw [if_neg (by omega)]))
  refine Eq.mp ?_ this
  congr 1
  rcases qCP (fun i => if a.getD i 0 = b.getD i 0 then none else some false) true a.length with ⟨h1, h2⟩ | ⟨j, h1, h2, _⟩
  ·rw [h1, dec_t]
   exact ext0 hl (fun i hi => of_ite_none (h2 i hi))
  ·obtain ⟨c1, c2⟩ := of_ite_some h2
   rw [← c2, dec_f]
   rintro rfl; exact c1 rfl
 ·simp only [h, ↓reduceIte]
  rw [dec_f (by rintro rfl; exact h rfl)]
  exact Ev.some _
theorem again_ev (tr : List Nd) (m : List Int) (hl : tr.length ≤ 1000000) (hm : ∀ i, i < tr.length → (tr.getD i zN).f2.length ≤ 17592186043904) : Ev (fun k => qAG.f k tr m) (seenS tr m) := by
 unfold qAG.f seenS
 have step : ∀ i, i < tr.length → ∀ r, (if (tr.getD i zN).f2 = m then r = true else Ev (fun k => qAG.l0 k m tr (tr.length : Int) ((i + 1 : Nat) : Int)) r) → Ev (fun k => qAG.l0 k m tr (tr.length : Int) (i : Int)) r := by
  intro i hi r hr
  refine Ev.up ?_
  simp only [qAG.l0, lt_int hi, nn, ↓reduceIte, rdN, wrap_up hi (by omega : tr.length ≤ 9223372036854775807)]
  refine Ev.bind (kequal_ev _ _ (hm i hi)) ?_
  by_cases c : (tr.getD i zN).f2 = m
  ·simp only [c, decide_true, ↓reduceIte] at hr ⊢; rw [hr]; exact Ev.some _
  ·simp only [c, decide_false, ↓reduceIte, Bool.false_eq_true] at hr ⊢; exact hr
 refine Ev_first (L := fun k i => qAG.l0 k m tr (tr.length : Int) (i : Int)) _ (fun i hi hp r hr => step i hi r ?_) (fun i r hi hp => step i hi r ?_) (Ev.one (fun k => by simp only [qAG.l0]; rw [if_neg (by omega)]))
 ·have : ¬ (tr.getD i zN).f2 = m := fun x => by rw [if_pos x] at hp; cases hp
  rw [if_neg this]; exact hr
 ·by_cases x : (tr.getD i zN).f2 = m
  ·rw [if_pos x] at hp ⊢; exact (Option.some.inj hp).symm
  ·rw [if_neg x] at hp; cases hp
theorem initial_ev (nm : ByteArray) {ps : List Pla} {ts : List Tra} (hp : ps.length ≤ 1000000) (hT : Thin ts) : Ev (fun k => net_Initial.f k nm ps ts) (initialS (validS nm ps ts) ps) := by
 unfold net_Initial.f initialS
 refine Ev.bind (valid_ev nm hT) ?_
 by_cases hv : validS nm ps ts = true
 ·simp only [hv, ↓reduceIte]
  have h := Ev_up (L := fun k i => net_Initial.l0 k ((ps.take i).map (·.f1)) ps (ps.length : Int) (i : Int)) (n := ps.length) (r := ps.map (·.f1))
   (fun i hi hr => Ev.step (fun k => by
    simp only [net_Initial.l0]
    rw [if_pos (by omega), if_pos (by omega), if_pos (by omega), if_pos (by simp only [List.length_map, List.length_take]; omega), rdP, wrap_up hi (by omega), ← take_map_succ ps (fun a => a.f1) zP hi]) hr)
   (Ev.one (fun k => by simp only [net_Initial.l0]; rw [if_neg (by omega), List.take_length]))
  simpa using h
 ·simp only [hv]; exact Ev.some _
abbrev TRes := List Nd × Bool × Int
def kidsS (ps : List Pla) (ts : List Tra) (limit i : Nat) : List Int → List Nd → TRes ⊕ List Nd
 | [], tr => .inr tr
 | t :: l, tr => if (fireS true ps ts (tr.getD i zN).f2 t).2 = true then (if tr.length ≥ limit then .inl (tr, false, 0) else kidsS ps ts limit i l (tr ++ [⟨(i : Int), t, ancS tr (i + 1) (i : Int) (fireS true ps ts (tr.getD i zN).f2 t).1, seenS tr (ancS tr (i + 1) (i : Int) (fireS true ps ts (tr.getD i zN).f2 t).1)⟩])) else .inl ([], false, 3)
def treeS (ps : List Pla) (ts : List Tra) (limit : Nat) : Nat → List Nd → Nat → TRes
 | 0, tr, _ => (tr, true, 0)
 | f + 1, tr, i => if i < tr.length then (if (tr.getD i zN).f3 = true then treeS ps ts limit f tr (i + 1) else match kidsS ps ts limit i (enabS true ps ts (tr.getD i zN).f2) tr with | .inl r => r | .inr tr' => treeS ps ts limit f tr' (i + 1)) else (tr, true, 0)
def Good (ts : List Tra) (n : Nat) (m0 : List Int) (limit : Nat) (r : TRes) : Prop := r = ([], false, 3) ∨ (r.2.2 = 0 ∧ TreeOk ts n m0 r.1 ∧ r.1.length ≤ limit ∧ (r.2.1 = true → ∀ i, i < r.1.length → Kids ts r.1 i))
variable {ps : List Pla} {ts : List Tra} {m0 : List Int} {limit : Nat}
structure NetOk (ps : List Pla) (ts : List Tra) : Prop where
 plain : plainS true ps ts = true
 arcs : Arcs (ps.length : Int) ts
 places : ps.length ≤ 1000
 trans : ts.length ≤ 1000
theorem NetOk.fits (h : NetOk ps ts) {m : List Int} (hm : Om ps.length m) : fitsS true ps ts m = true := by
 unfold fitsS
 rw [if_pos h.plain]; exact omS_iff.2 hm
theorem mem_enabS (h : NetOk ps ts) {m : List Int} (hm : Om ps.length m) {t : Int} : t ∈ enabS true ps ts m ↔ ∃ t' : Nat, t = (t' : Int) ∧ t' < ts.length ∧ Can (ts.getD t' zT) m := by
 unfold enabS
 rw [if_pos (h.fits hm), List.mem_map]
 constructor
 ·rintro ⟨x, hx, rfl⟩
  obtain ⟨h1, h2⟩ := List.mem_filter.1 hx
  exact ⟨x, rfl, List.mem_range.1 h1, canS_iff.1 h2⟩
 ·rintro ⟨x, rfl, h1, h2⟩
  exact ⟨x, List.mem_filter.2 ⟨List.mem_range.2 h1, canS_iff.2 h2⟩, rfl⟩
theorem fireS_can (h : NetOk ps ts) {m : List Int} (hm : Om ps.length m) {t : Nat} (ht : t < ts.length) (hc : Can (ts.getD t zT) m) : fireS true ps ts m (t : Int) = goS (ts.getD t zT) m := by
 unfold fireS
 rw [if_pos (h.fits hm), if_neg (by omega), Int.toNat_natCast, if_pos (canS_iff.2 hc)]
theorem goS_cases (t : Tra) (m : List Int) : (goS t m = (movS t m, true) ∧ Fits (movS t m)) ∨ (goS t m = ([], false) ∧ ¬ Fits (movS t m)) := by
 unfold goS
 by_cases c : overS (movS t m) = true
 ·rw [if_pos c]
  exact Or.inr ⟨rfl, fun h => by rw [overS_iff.2 h] at c; cases c⟩
 ·rw [if_neg c]
  exact Or.inl ⟨rfl, overS_iff.1 (by cases e : overS (movS t m) with | false => rfl | true => exact absurd e c)⟩
theorem Kids.ext {tr tr' : List Nd} {i : Nat} (h : Kids ts tr i) (hi : i < tr.length) (hl : tr.length ≤ tr'.length) (hs : ∀ j, j < tr.length → tr'.getD j zN = tr.getD j zN) : Kids ts tr' i := by
 intro h3 t ht hc
 rw [hs i hi] at h3 hc ⊢
 obtain ⟨h1, j, h2, h4, h5, h6⟩ := h h3 t ht hc
 exact ⟨h1, j, h2, by omega, by rw [hs j h4]; exact h5, by rw [hs j h4]; exact h6⟩
theorem child_ok (h : NetOk ps ts) {tr : List Nd} (ho : TreeOk ts ps.length m0 tr) {i : Nat} (hi : i < tr.length) {t : Nat} (ht : t < ts.length) (hc : Can (ts.getD t zT) (tr.getD i zN).f2) (hf : Fits (movS (ts.getD t zT) (tr.getD i zN).f2)) :
  TreeOk ts ps.length m0 (tr ++ [⟨(i : Int), (t : Int), ancS tr (i + 1) (i : Int) (movS (ts.getD t zT) (tr.getD i zN).f2), seenS tr (ancS tr (i + 1) (i : Int) (movS (ts.getD t zT) (tr.getD i zN).f2))⟩]) :=
 ho.snoc hi ht hc hf rfl (ancS_om _ _ _ _ (movS_om (ho.om i hi) (h.arcs t ht).1 (h.arcs t ht).2 hc hf)) seenS_iff
theorem kids_good (h : NetOk ps ts) {i : Nat} : ∀ (rest : List Int) (tr : List Nd), TreeOk ts ps.length m0 tr → tr.length ≤ limit → i < tr.length → (∀ t ∈ rest, ∃ t' : Nat, t = (t' : Int) ∧ t' < ts.length ∧ Can (ts.getD t' zT) (tr.getD i zN).f2) →
  (∃ r, kidsS ps ts limit i rest tr = .inl r ∧ (r = ([], false, 3) ∨ (r.2 = (false, 0) ∧ TreeOk ts ps.length m0 r.1 ∧ r.1.length ≤ limit))) ∨
  (∃ tr', kidsS ps ts limit i rest tr = .inr tr' ∧ TreeOk ts ps.length m0 tr' ∧ tr'.length ≤ limit ∧ tr.length ≤ tr'.length ∧ (∀ j, j < tr.length → tr'.getD j zN = tr.getD j zN) ∧
   (∀ t : Nat, (t : Int) ∈ rest → Fits (movS (ts.getD t zT) (tr.getD i zN).f2) ∧ ∃ j, tr.length ≤ j ∧ j < tr'.length ∧ (tr'.getD j zN).f0 = (i : Int) ∧ (tr'.getD j zN).f1 = (t : Int)))
 | [], tr, ho, hl, hi, hr => Or.inr ⟨tr, rfl, ho, hl, Nat.le_refl _, fun _ _ => rfl, fun t ht => by cases ht⟩
 | t :: rest, tr, ho, hl, hi, hr => by
  obtain ⟨t', rfl, ht, hc⟩ := hr t (List.mem_cons_self ..)
  unfold kidsS
  rw [fireS_can h (ho.om i hi) ht hc]
  rcases goS_cases (ts.getD t' zT) (tr.getD i zN).f2 with ⟨e, hf⟩ | ⟨e, hf⟩
  ·rw [e, if_pos rfl]
   by_cases c : tr.length ≥ limit
   ·rw [if_pos c]
    exact Or.inl ⟨_, rfl, Or.inr ⟨rfl, ho, hl⟩⟩
   ·rw [if_neg c]
    have ok := child_ok h ho hi ht hc hf
    have old : ∀ (x : Nd) j, j < tr.length → (tr ++ [x]).getD j zN = tr.getD j zN := fun x j hj => by rw [getD_app, if_neg (by omega)]
    have ll : ∀ (x : Nd), (tr ++ [x]).length = tr.length + 1 := fun x => by rw [List.length_append, List.length_singleton]
    rcases kids_good h rest _ ok (by rw [ll]; omega) (by rw [ll]; omega) (fun s hs => (old _ i hi).symm ▸ hr s (List.mem_cons_of_mem _ hs)) with ⟨r, e1, e2⟩ | ⟨tr', e1, e2, e3, e4, e5, e6⟩
    ·exact Or.inl ⟨r, e1, e2⟩
    ·refine Or.inr ⟨tr', e1, e2, e3, by rw [ll] at e4; omega, fun j hj => by rw [e5 j (by rw [ll]; omega), old _ j hj], fun s hs => ?_⟩
     rcases List.mem_cons.1 hs with c2 | c2
     ·obtain rfl : s = t' := by omega
      refine ⟨hf, tr.length, Nat.le_refl _, by rw [ll] at e4; omega, ?_⟩
      rw [e5 tr.length (by rw [ll]; omega), getD_app, if_pos rfl]
      exact ⟨rfl, rfl⟩
     ·have := e6 s c2
      rw [old _ i hi] at this
      obtain ⟨f1, j, f2, f3, f4⟩ := this
      exact ⟨f1, j, by rw [ll] at f2; omega, f3, f4⟩
  ·rw [e, if_neg Bool.false_ne_true]
   exact Or.inl ⟨_, rfl, Or.inl rfl⟩
theorem tree_good (h : NetOk ps ts) : ∀ (f : Nat) (tr : List Nd) (i : Nat), TreeOk ts ps.length m0 tr → tr.length ≤ limit → limit < i + f → (∀ j, j < i → j < tr.length → Kids ts tr j) → Good ts ps.length m0 limit (treeS ps ts limit f tr i)
 | 0, tr, i, ho, hl, hf, hk => Or.inr ⟨rfl, ho, hl, fun _ j hj => hk j (by have := (show j < tr.length from hj); omega) hj⟩
 | f + 1, tr, i, ho, hl, hf, hk => by
  unfold treeS
  by_cases c : i < tr.length
  ·rw [if_pos c]
   by_cases d : (tr.getD i zN).f3 = true
   ·rw [if_pos d]
    refine tree_good h f tr (i + 1) ho hl (by omega) (fun j hj hj2 => ?_)
    by_cases e : j = i
    ·subst e; exact fun x => by rw [d] at x; cases x
    ·exact hk j (by omega) hj2
   ·rw [if_neg d]
    have hom := ho.om i c
    rcases kids_good (limit := limit) h (i := i) (enabS true ps ts (tr.getD i zN).f2) tr ho hl c (fun t ht => (mem_enabS h hom).1 ht) with ⟨r, e1, e2⟩ | ⟨tr', e1, e2, e3, e4, e5, e6⟩
    ·rw [e1]
     rcases e2 with e2 | ⟨e2, e3, e4⟩
     ·exact Or.inl e2
     ·refine Or.inr ⟨by rw [e2], e3, e4, fun x => ?_⟩
      rw [e2] at x; cases x
    ·rw [e1]
     refine tree_good h f tr' (i + 1) e2 e3 (by omega) (fun j hj hj2 => ?_)
     by_cases e : j = i
     ·subst e
      intro h3 t ht hc
      rw [e5 j c] at hc ⊢
      obtain ⟨f1, x, f2, f3, f4⟩ := e6 t ((mem_enabS h hom).2 ⟨t, rfl, ht, hc⟩)
      exact ⟨f1, x, by omega, f3, f4⟩
     ·exact (hk j (by omega) (by omega)).ext (by omega) e4 e5
  ·rw [if_neg c]
   exact Or.inr ⟨rfl, ho, hl, fun _ j hj => hk j (by have := (show j < tr.length from hj); omega) hj⟩
theorem anc_ev {tr : List Nd} (h : Ups tr) (hl : ∀ i, i < tr.length → (tr.getD i zN).f2.length ≤ 17592186043904) : ∀ (f : Nat) (i : Int) (m : List Int), i < (f : Int) → -1 ≤ i → i < (tr.length : Int) → m.length ≤ 17592186043904 → Ev (fun k => qAI k tr i m) (ancS tr f i m)
 | 0, i, m, h1, h2, _, _ => by
  obtain rfl : i = -1 := by omega
  exact Ev.one (fun k => by simp only [qAI]; rw [if_neg (by omega)]; rfl)
 | f + 1, i, m, h1, h2, h3, h4 => by
  unfold ancS
  refine Ev.up ?_
  by_cases c : i < 0
  ·rw [if_pos c]
   simp only [qAI, show ¬ (0 ≤ i) by omega, ↓reduceIte]
   exact Ev.some _
  ·obtain ⟨j, rfl⟩ : ∃ j : Nat, i = (j : Int) := ⟨i.toNat, by omega⟩
   have hj : j < tr.length := by omega
   have hu := h j hj
   rw [if_neg c]
   simp only [qAI, nn, lt_int hj, ↓reduceIte, rdN, Int.toNat_natCast]
   refine Ev.bind (acc_ev _ _ (hl j hj) h4) ?_
   exact anc_ev h hl f _ _ (by omega) (by omega) (by omega) (by rw [accS_len]; exact h4)
theorem Om.le {n : Nat} {m : List Int} (h : Om n m) (hn : n ≤ 1000) : m.length ≤ 17592186043904 := by rw [h.len]; omega
variable {nm : ByteArray} {ps : List Pla} {ts : List Tra} {m0 : List Int} {limit : Nat}
theorem kkids_ev (h : NetOk ps ts) (hT : Thin ts) (hv : validS nm ps ts = true) (hlim : limit ≤ 100000) {i : Nat} {L : List Int} (hL : L.length ≤ 1000000) : ∀ (rest : List Int) (x : Nat) (tr : List Nd), L.drop x = rest → TreeOk ts ps.length m0 tr → tr.length ≤ limit → i < tr.length → (∀ t ∈ rest, ∃ t' : Nat, t = (t' : Int) ∧ t' < ts.length ∧ Can (ts.getD t' zT) (tr.getD i zN).f2) →
  ∀ r : TRes, (match kidsS ps ts limit i rest tr with | .inl r' => r = r' | .inr tr' => Ev (fun k => qAC.l0 k (limit : Int) tr' ((i + 1 : Nat) : Int) nm ps ts) r) → Ev (fun k => qAC.l1 k (limit : Int) tr (i : Int) L (L.length : Int) (x : Int) nm ps ts) r
 | [], x, tr, hx, ho, hl, hi, hr, r, hh => by
  have hx2 : L.length ≤ x := by
   apply Classical.byContradiction
   intro c
   have := congrArg List.length hx
   rw [List.length_drop] at this
   simp at this
   omega
  refine Ev.up ?_
  simp only [qAC.l1, show ¬ ((x : Int) < (L.length : Int)) by omega, ↓reduceIte, wrap_up hi (by omega : tr.length ≤ 9223372036854775807)]
  exact hh
 | t :: rest, x, tr, hx, ho, hl, hi, hr, r, hh => by
  have hx2 : x < L.length := by
   apply Classical.byContradiction
   intro c
   rw [List.drop_of_length_le (by omega)] at hx
   cases hx
  have ht0 : L.getD x 0 = t := by
   rw [List.getD_eq_getElem?_getD, ← List.head?_drop, hx]; rfl
  have hx3 : L.drop (x + 1) = rest := by
   rw [← List.drop_drop, hx]; rfl
  obtain ⟨t', rfl, ht, hc⟩ := hr t (List.mem_cons_self ..)
  have hom := ho.om i hi
  have hnp : ∀ j, j < tr.length → (tr.getD j zN).f2.length ≤ 17592186043904 := fun j hj => (ho.om j hj).le h.places
  refine Ev.up ?_
  simp only [qAC.l1, lt_int hx2, lt_int hi, nn, ↓reduceIte, rd_nat, rdN, ht0, wrap_up hx2 (by omega : L.length ≤ 9223372036854775807)]
  have fe := kFire_ev nm (ps := ps) (ts := ts) (Nat.le_trans h.places (by decide)) (Nat.le_trans h.trans (by decide)) hT (hnp i hi) (t' : Int)
  rw [hv, fireS_can h hom ht hc] at fe
  refine Ev.bind fe ?_
  unfold kidsS at hh
  rw [fireS_can h hom ht hc] at hh
  rcases goS_cases (ts.getD t' zT) (tr.getD i zN).f2 with ⟨e, hf⟩ | ⟨e, hf⟩
  ·rw [e] at hh ⊢
   simp only [↓reduceIte] at hh ⊢
   have hmo := movS_om hom (h.arcs t' ht).1 (h.arcs t' ht).2 hc hf
   refine Ev.bind (anc_ev ho.ups hnp (i + 1) (i : Int) (movS (ts.getD t' zT) (tr.getD i zN).f2) (by omega) (by omega) (by omega) (hmo.le h.places)) ?_
   by_cases c : tr.length ≥ limit
   ·simp only [c, show (tr.length : Int) ≥ (limit : Int) by omega, ↓reduceIte] at hh ⊢
    rw [hh]; exact Ev.some _
   ·simp only [c, show ¬ ((tr.length : Int) ≥ (limit : Int)) by omega, ↓reduceIte] at hh ⊢
    refine Ev.bind (again_ev tr _ (by omega) hnp) ?_
    simp only [show tr.length < 2932031007402 by omega, ↓reduceIte]
    exact kkids_ev h hT hv hlim hL rest (x + 1) _ hx3 (child_ok h ho hi ht hc hf) (by rw [List.length_append, List.length_singleton]; omega) (by rw [List.length_append, List.length_singleton]; omega) (fun s hs => by
     rw [getD_app, if_neg (by omega)]
     exact hr s (List.mem_cons_of_mem _ hs)) r hh
  ·rw [e] at hh ⊢
   simp only [Bool.false_eq_true, ↓reduceIte] at hh ⊢
   rw [hh]; exact Ev.some _
theorem ktree_ev (h : NetOk ps ts) (hT : Thin ts) (hv : validS nm ps ts = true) (hlim : limit ≤ 100000) : ∀ (f : Nat) (tr : List Nd) (i : Nat), TreeOk ts ps.length m0 tr → tr.length ≤ limit → limit < i + f → Ev (fun k => qAC.l0 k (limit : Int) tr (i : Int) nm ps ts) (treeS ps ts limit f tr i)
 | 0, tr, i, ho, hl, hf => by
  refine Ev.one (fun k => ?_)
  simp only [qAC.l0, treeS]
  rw [if_neg (by omega)]
 | f + 1, tr, i, ho, hl, hf => by
  refine Ev.up ?_
  unfold treeS
  by_cases c : i < tr.length
  ·simp only [qAC.l0, lt_int c, c, nn, ↓reduceIte, rdN, wrap_up c (by omega : tr.length ≤ 9223372036854775807)]
   by_cases d : (tr.getD i zN).f3 = true
   ·simp only [d, ↓reduceIte]
    exact ktree_ev h hT hv hlim f tr (i + 1) ho hl (by omega)
   ·simp only [d, ↓reduceIte, Bool.false_eq_true]
    have hom := ho.om i c
    have ee := kEnabled_ev nm (ps := ps) (ts := ts) (Nat.le_trans h.places (by decide)) (Nat.le_trans h.trans (by decide)) hT (hom.le h.places)
    rw [hv] at ee
    refine Ev.bind ee ?_
    have hall : ∀ t ∈ enabS true ps ts (tr.getD i zN).f2, ∃ t' : Nat, t = (t' : Int) ∧ t' < ts.length ∧ Can (ts.getD t' zT) (tr.getD i zN).f2 := fun t ht => (mem_enabS h hom).1 ht
    have hlen : (enabS true ps ts (tr.getD i zN).f2).length ≤ 1000000 := by
     unfold enabS
     rw [if_pos (h.fits hom)]
     have := filter_len (fun t => canS (ts.getD t zT) (tr.getD i zN).f2) ts.length
     have := h.trans
     omega
    refine kkids_ev h hT hv hlim hlen _ 0 tr (List.drop_zero) ho hl c hall _ ?_
    rcases kids_good (limit := limit) h (i := i) (enabS true ps ts (tr.getD i zN).f2) tr ho hl c hall with ⟨r, e1, e2⟩ | ⟨tr', e1, e2, e3, e4, e5, e6⟩
    ·rw [e1]
    ·rw [e1]
     exact ktree_ev h hT hv hlim f tr' (i + 1) e2 e3 (by omega)
  ·simp only [qAC.l0, show ¬ ((i : Int) < (tr.length : Int)) by omega, c, ↓reduceIte]
   exact Ev.some _
def treeR (nm : ByteArray) (ps : List Pla) (ts : List Tra) (limit : Int) : TRes :=
 if (checkS nm ps ts).1 = 0 then (if plainS true ps ts = true then (if limit < 1 ∨ limit > 20000 then ([], false, 1) else treeS ps ts limit.toNat (limit.toNat + 1) [⟨-1, -1, ps.map (·.f1), false⟩] 0) else ([], false, 12)) else ([], false, (checkS nm ps ts).1)
theorem validS_check {nm : ByteArray} {ps : List Pla} {ts : List Tra} : validS nm ps ts = true ↔ (checkS nm ps ts).1 = 0 := by unfold validS; exact beq_iff_eq
theorem netOk {nm : ByteArray} {ps : List Pla} {ts : List Tra} (hv : validS nm ps ts = true) (hp : plainS true ps ts = true) : NetOk ps ts := by
 have hV := validS_iff.1 hv
 exact ⟨hp, fun t ht => ⟨(hV.arcs ht).2.1, (hV.arcs ht).2.2.1⟩, Nat.le_trans hV.p (by decide), Nat.le_trans hV.t (by decide)⟩
theorem place_ok {x c : Int} (h : placeE x c = 0) : 0 ≤ x ∧ x ≤ 1048576 := by
 unfold placeE at h
 by_cases c1 : c < 0 ∨ c > 1048576
 ·rw [if_pos c1] at h; omega
 ·rw [if_neg c1] at h
  by_cases c2 : ((x < 0 ∨ x > 1048576) ∨ c ≠ 0 ∧ x > c)
  ·rw [if_pos c2] at h; omega
  ·omega
theorem first_om {nm : ByteArray} {ps : List Pla} {ts : List Tra} (hv : validS nm ps ts = true) : Om ps.length (ps.map (·.f1)) ∧ Fin (ps.map (·.f1)) := by
 have hV := validS_iff.1 hv
 have e : ∀ i, i < ps.length → (ps.map (·.f1)).getD i 0 = (ps.getD i zP).f1 := fun i hi => by
  rw [List.getD_eq_getElem?_getD, List.getElem?_map, List.getD_eq_getElem?_getD, List.getElem?_eq_getElem hi]; rfl
 have g : ∀ i, i < ps.length → 0 ≤ (ps.getD i zP).f1 ∧ (ps.getD i zP).f1 ≤ 1048576 := fun i hi => place_ok (hV.plName hi).2
 refine ⟨⟨List.length_map .., fun i hi => ?_⟩, fun i hi => ?_⟩
 ·rw [e i hi]; exact okN_iff.2 (Or.inr (g i hi))
 ·rw [List.length_map] at hi
  rw [e i hi]
  have := g i hi
  omega
theorem kTree_ev (nm : ByteArray) {ps : List Pla} {ts : List Tra} (hp : ps.length ≤ 1000000) (ht : ts.length ≤ 1000000) (hT : Thin ts) (limit : Int) : Ev (fun k => qAC.f k nm ps ts limit) (treeR nm ps ts limit) := by
 unfold qAC.f treeR
 refine Ev.bind (check_ev nm hT) ?_
 by_cases hc : (checkS nm ps ts).1 = 0
 ·have hv := validS_check.2 hc
  simp only [hc, ↓reduceIte]
  refine Ev.bind (plain_ev nm hp ht hT) ?_
  rw [hv]
  by_cases hpl : plainS true ps ts = true
  ·simp only [hpl, ↓reduceIte]
   by_cases h1 : limit < 1
   ·simp only [h1, true_or, ↓reduceIte]
    exact Ev.one (fun k => by simp only [qAC.j0, ↓reduceIte])
   ·simp only [h1, false_or, ↓reduceIte]
    by_cases h2 : limit > 20000
    ·simp only [h2, decide_true, ↓reduceIte]
     exact Ev.one (fun k => by simp only [qAC.j0, ↓reduceIte])
    ·simp only [h2, decide_false, ↓reduceIte]
     refine Ev.up ?_
     simp only [qAC.j0, Bool.false_eq_true, ↓reduceIte]
     refine Ev.bind (initial_ev nm hp hT) ?_
     rw [hv, initialS, if_pos rfl]
     obtain ⟨L, rfl⟩ : ∃ L : Nat, limit = (L : Int) := ⟨limit.toNat, by omega⟩
     rw [Int.toNat_natCast]
     exact ktree_ev (netOk hv hpl) hT hv (by omega) (L + 1) _ 0 (TreeOk.one (first_om hv).1) (by simp; omega) (by omega)
  ·simp only [hpl, ↓reduceIte, Bool.false_eq_true]; exact Ev.some _
 ·simp only [hc, ↓reduceIte]; exact Ev.some _
theorem treeR_good {nm : ByteArray} {ps : List Pla} {ts : List Tra} {limit : Int} (h0 : (treeR nm ps ts limit).2.2 = 0) : ∃ L : Nat, limit = (L : Int) ∧ 1 ≤ L ∧ L ≤ 20000 ∧ validS nm ps ts = true ∧ plainS true ps ts = true ∧ Good ts ps.length (ps.map (·.f1)) L (treeR nm ps ts limit) := by
 unfold treeR at h0 ⊢
 by_cases hc : (checkS nm ps ts).1 = 0
 ·have hv := validS_check.2 hc
  rw [if_pos hc] at h0 ⊢
  by_cases hpl : plainS true ps ts = true
  ·rw [if_pos hpl] at h0 ⊢
   by_cases h1 : limit < 1 ∨ limit > 20000
   ·rw [if_pos h1] at h0; cases h0
   ·rw [if_neg h1] at h0 ⊢
    obtain ⟨L, rfl⟩ : ∃ L : Nat, limit = (L : Int) := ⟨limit.toNat, by omega⟩
    rw [Int.toNat_natCast]
    exact ⟨L, rfl, by omega, by omega, hv, hpl, tree_good (netOk hv hpl) (L + 1) _ 0 (TreeOk.one (first_om hv).1) (by simp; omega) (by omega) (fun j hj => absurd hj (Nat.not_lt_zero _))⟩
  ·rw [if_neg hpl] at h0; cases h0
 ·rw [if_neg hc] at h0
  exact absurd h0 hc
set_option linter.unusedSimpArgs false in
theorem refname_step (k : Nat) (s : ByteArray) (i : Nat) (hi : i < s.size) (hs : s.size ≤ 1000000) :
   r09_Name.l0 (k + 1) s (i : Int) = stepO (if nameC (i : Int) (bt s (i : Int)) = true then none else some false) (r09_Name.l0 k s ((i + 1 : Nat) : Int)) := by
 simp only [r09_Name.l0]
 rw [if_pos (by omega), if_pos (by omega), wrap_up hi (by omega)]
 unfold nameC
 generalize bt s (i : Int) = c
 have e95 : (c == 95) = decide (c = 95) := by rw [Bool.eq_iff_iff]; simp
 have e46 : (c == 46) = decide (c = 46) := by rw [Bool.eq_iff_iff]; simp
 rw [e95, e46]
 have b7 : (0 : Int) < (i : Int) ↔ ¬ (i : Int) = 0 := by omega
 by_cases a1 : c ≥ 97 <;> by_cases a2 : c ≤ 122 <;> by_cases a3 : c = 95 <;> by_cases a4 : c ≥ 48 <;> by_cases a5 : c ≤ 57 <;> by_cases a6 : c = 46 <;> by_cases a7 : (i : Int) = 0 <;>
   first
   | (exfalso; omega)
   | (subst a3; simp [stepO]; done)
   | (subst a6
      have d7 : i = 0 := by omega
      simp [stepO, d7]; done)
   | (subst a6
      have d7 : ¬ i = 0 := by omega
      have d8 : 0 < i := by omega
      simp [stepO, d7, d8]; done)
   | (simp only [b7, a1, a2, a3, a4, a5, a6, a7, ge_iff_le.1 a1, ↓reduceIte, decide_true, decide_false, Bool.true_and, Bool.false_and, Bool.and_true, Bool.and_false, Bool.or_true, Bool.true_or, Bool.or_false, Bool.false_or, Bool.false_eq_true, not_true_eq_false, not_false_eq_true, stepO]; done)
   | (have c1 : ¬ 97 ≤ c := a1
      simp only [b7, a1, c1, a2, a3, a4, a5, a6, a7, ↓reduceIte, decide_true, decide_false, Bool.true_and, Bool.false_and, Bool.and_true, Bool.and_false, Bool.or_true, Bool.true_or, Bool.or_false, Bool.false_or, Bool.false_eq_true, not_true_eq_false, not_false_eq_true, stepO]; first | done | rfl)
theorem refname_ev (s : ByteArray) : Ev (fun k => r09_Name.f k s) (nameB s) := by
 have e0 : ∀ k, r09_Name.f k s = r09_Name.j0 k s (decide ((s.size : Int) < 1 ∨ (s.size : Int) > 16)) := fun k => by
  unfold r09_Name.f
  exact ite_or _ _ (fun b => r09_Name.j0 k s b)
 refine Ev.congr e0 ?_
 by_cases c : (s.size : Int) < 1 ∨ (s.size : Int) > 16
 ·rw [decide_eq_true c]
  have hf : nameB s = false := by
   unfold nameB
   rcases c with c | c
   ·rw [decide_eq_false (show ¬ 1 ≤ s.size by omega)]; rfl
   ·rw [decide_eq_false (show ¬ s.size ≤ 16 by omega)]; simp
  rw [hf]
  exact Ev.one (fun k => by simp only [r09_Name.j0, ↓reduceIte])
 ·rw [decide_eq_false c]
  refine Ev.step (f := fun k => r09_Name.l0 k s ((0 : Nat) : Int)) (fun k => by simp only [r09_Name.j0]; rw [if_neg Bool.false_ne_true]; rfl) ?_
  have h := Ev_loop (L := fun k i => r09_Name.l0 k s (i : Int)) (n := s.size) 1 (fun i => if nameC (i : Int) (bt s (i : Int)) = true then none else some false) (e := true)
   (fun k i hi => refname_step k s i hi (by omega)) (Ev.one (fun k => by simp only [r09_Name.l0]; rw [if_neg (by omega)]))
  have e : first (fun i => if nameC (i : Int) (bt s (i : Int)) = true then none else some false) true s.size = nameB s := by
   rcases qCP (fun i => if nameC (i : Int) (bt s (i : Int)) = true then none else some false) true s.size with ⟨h1, h2⟩ | ⟨j, h1, h2, _⟩
   ·rw [h1]
    exact (nameB_yes (by omega) (by omega) (fun i hi => of_ite_none (h2 i hi))).symm
   ·obtain ⟨h3, h4⟩ := of_ite_some h2
    rw [← h4]
    exact (nameB_no h1 (Bool.eq_false_iff.2 h3)).symm
  rw [← e]
  exact h
theorem nmE_loop (l : List ByteArray) (s : ByteArray) (h : nameB s = true) : nmE l s = if (l.any fun o => o.toList == s.toList) = true then 6 else 0 := by unfold nmE; rw [if_pos h]
theorem refplace_ev (nm : ByteArray) {ps : List Pla} (ts : List Tra) {i : Nat} (hi : i < ps.length) (hp : ps.length ≤ 1000000) : Ev (fun k => r09_place.f k nm ps ts (i : Int)) (plR ps i) := by
 have e0 : ∀ k, r09_place.f k nm ps ts (i : Int) = (r09_Name.f k (ps.getD i zP).f0).bind fun t => if t = true then r09_place.l0 k (i : Int) 0 nm ps ts (ps.getD i zP).f0 (ps.getD i zP).f1 (ps.getD i zP).f2 else some 5 := fun k => by
  unfold r09_place.f
  rw [if_pos (by omega), if_pos (by omega), rdP]
 refine Ev.congr e0 (Ev.bind (refname_ev _) ?_)
 unfold plR
 by_cases hn : nameB (ps.getD i zP).f0 = true
 ·simp only [hn, ↓reduceIte]
  have hcap : Ev (fun k => r09_place.l0 k (i : Int) (i : Int) nm ps ts (ps.getD i zP).f0 (ps.getD i zP).f1 (ps.getD i zP).f2) (placeE (ps.getD i zP).f1 (ps.getD i zP).f2) := by
   refine Ev.stepn 2 (f := fun _ => some (placeE (ps.getD i zP).f1 (ps.getD i zP).f2)) (fun k => ?_) (Ev.some _)
   simp only [r09_place.l0]
   rw [if_neg (by omega), ite_or _ _ (fun b => r09_place.j1 (k + 1) b (ps.getD i zP).f0 (ps.getD i zP).f1 (ps.getD i zP).f2)]
   simp only [r09_place.j1]
   generalize (ps.getD i zP).f1 = x
   generalize (ps.getD i zP).f2 = c
   unfold placeE
   by_cases c1 : c < 0 ∨ c > 1048576
   ·rw [decide_eq_true c1, if_pos rfl, if_pos c1]
   ·rw [decide_eq_false c1, if_neg Bool.false_ne_true, if_neg c1]
    by_cases c2 : x < 0
    ·rw [if_pos c2, if_pos (Or.inl (Or.inl c2))]
    ·rw [if_neg c2]
     by_cases c3 : x > 1048576
     ·rw [if_pos c3, if_pos (Or.inl (Or.inr c3))]
     ·rw [if_neg c3]
      by_cases c4 : c = 0
      ·rw [if_pos c4, if_neg (by omega)]
      ·rw [if_neg c4]
       by_cases c5 : x > c
       ·rw [if_pos c5, if_pos (Or.inr ⟨c4, c5⟩)]
       ·rw [if_neg c5, if_neg (by omega)]
  have h := Ev_loop (L := fun k j => r09_place.l0 k (i : Int) (j : Int) nm ps ts (ps.getD i zP).f0 (ps.getD i zP).f1 (ps.getD i zP).f2) (n := i) 1 (fun j => if (ps.getD j zP).f0.toList = (ps.getD i zP).f0.toList then some 6 else none) (e := placeE (ps.getD i zP).f1 (ps.getD i zP).f2)
   (fun k j hj => by
    simp only [r09_place.l0]
    rw [if_pos (by omega), if_pos (by omega), if_pos (by omega), rdP, wrap_up hj (by omega)]
    by_cases c : (ps.getD j zP).f0.toList = (ps.getD i zP).f0.toList
    ·rw [if_pos c, if_pos c]; rfl
    ·rw [if_neg c, if_neg c]; rfl) hcap
  rw [first_any] at h
  have e : (∃ j, j < i ∧ (ps.getD j zP).f0.toList = (ps.getD i zP).f0.toList) ↔ (((ps.take i).map (·.f0)).any fun o => o.toList == (ps.getD i zP).f0.toList) = true := by
   rw [any_take ps (·.f0) _ zP (by omega)]
   simp only [beq_iff_eq]
  rw [nmE_loop _ _ hn]
  by_cases d : ∃ j, j < i ∧ (ps.getD j zP).f0.toList = (ps.getD i zP).f0.toList
  ·rw [if_pos d] at h
   rw [if_pos (e.1 d), if_pos (by decide)]
   exact h
  ·rw [if_neg d] at h
   rw [if_neg (fun x => d (e.2 x)), if_neg (by decide)]
   exact h
 ·simp only [hn]
  have : nmE ((ps.take i).map (·.f0)) (ps.getD i zP).f0 = 5 := by unfold nmE; rw [if_neg hn]
  rw [this, if_pos (by decide)]
  exact Ev.some _
theorem refarcs_step (k : Nat) (nm : ByteArray) (ps : List Pla) (ts : List Tra) (l : List Ac) (i : Nat) (hi : i < l.length) (hl : l.length ≤ 1000000) :
  r09_arcs.l0 (k + 3) l (i : Int) nm ps ts = stepO (arcE (ps.length : Int) l i) (r09_arcs.l0 k l ((i + 1 : Nat) : Int) nm ps ts) := by
 simp only [r09_arcs.l0]
 rw [if_pos (by omega), if_pos (by omega), rdA, ite_or _ _ (fun b => r09_arcs.j1 (k + 2) l (i : Int) b nm ps ts)]
 unfold arcE
 by_cases c1 : (l.getD i zA).f0 < 0 ∨ (l.getD i zA).f0 ≥ (ps.length : Int)
 ·rw [decide_eq_true c1, if_pos c1]; simp only [r09_arcs.j1, ↓reduceIte, stepO]
 ·rw [decide_eq_false c1, if_neg c1]
  have e2 : ∀ b : Bool, r09_arcs.j2 (k + 1) l (i : Int) b nm ps ts = if b = true then some 8 else if (l.getD i zA).f1 < 1 ∨ (l.getD i zA).f1 > 99 then some 9 else r09_arcs.l0 k l ((i + 1 : Nat) : Int) nm ps ts := by
   intro b
   simp only [r09_arcs.j2]
   cases b with
   | true => rw [if_pos rfl, if_pos rfl]
   | false => rw [if_neg Bool.false_ne_true, if_neg Bool.false_ne_true, if_pos (by omega), if_pos (by omega), rdA, wrap_up hi (by omega), ite_or2]
  simp only [r09_arcs.j1]
  rw [if_neg Bool.false_ne_true]
  by_cases c2 : 0 < i
  ·rw [if_pos (by omega), if_pos (by omega), if_pos (by omega), if_pos (by rw [wrap_ok (by omega) (by omega)]; omega), if_pos (by rw [wrap_ok (by omega) (by omega)]; omega), wrap_ok (x := (i : Int) - 1) (by omega) (by omega), show ((i : Int) - 1) = ((i - 1 : Nat) : Int) by omega, rdA, rdA, e2]
   by_cases c3 : (l.getD (i - 1) zA).f0 ≥ (l.getD i zA).f0
   ·rw [decide_eq_true (show (l.getD i zA).f0 ≤ (l.getD (i - 1) zA).f0 from c3), if_pos rfl, if_pos ⟨c2, c3⟩]; rfl
   ·rw [decide_eq_false (show ¬ (l.getD i zA).f0 ≤ (l.getD (i - 1) zA).f0 from c3), if_neg Bool.false_ne_true, if_neg (show ¬ (0 < i ∧ (l.getD (i - 1) zA).f0 ≥ (l.getD i zA).f0) from fun h => c3 h.2)]
    by_cases d : (l.getD i zA).f1 < 1 ∨ (l.getD i zA).f1 > 99
    ·rw [if_pos d, if_pos d]; rfl
    ·rw [if_neg d, if_neg d]; rfl
  ·rw [if_neg (by omega), e2, if_neg Bool.false_ne_true, if_neg (show ¬ (0 < i ∧ (l.getD (i - 1) zA).f0 ≥ (l.getD i zA).f0) from fun h => c2 h.1)]
   by_cases d : (l.getD i zA).f1 < 1 ∨ (l.getD i zA).f1 > 99
   ·rw [if_pos d, if_pos d]; rfl
   ·rw [if_neg d, if_neg d]; rfl
theorem refarcs_ev (nm : ByteArray) (ps : List Pla) (ts : List Tra) (l : List Ac) (hl : l.length ≤ 1000000) : Ev (fun k => r09_arcs.f k nm ps ts l) (arcsE (ps.length : Int) l) :=
 Ev_loop (L := fun k i => r09_arcs.l0 k l (i : Int) nm ps ts) 3 (arcE (ps.length : Int) l) (fun k i hi => refarcs_step k nm ps ts l i hi hl)
  (Ev.one (fun k => by simp only [r09_arcs.l0]; rw [if_neg (by omega)]))
theorem reftrans_ev (nm : ByteArray) {ps : List Pla} {ts : List Tra} {i : Nat} (hi : i < ts.length) (hp : ps.length ≤ 1000000) (ht : ts.length ≤ 1000000) (hT : Thin ts) : Ev (fun k => r09_trans.f k nm ps ts (i : Int)) (trR ps ts i) := by
 have e0 : ∀ k, r09_trans.f k nm ps ts (i : Int) = (r09_Name.f k (ts.getD i zT).f0).bind fun t => if t = true then r09_trans.l0 k (i : Int) 0 nm ps ts (ts.getD i zT).f0 (ts.getD i zT).f1 (ts.getD i zT).f2 (ts.getD i zT).f3 (ts.getD i zT).f4 else some 5 := fun k => by
  unfold r09_trans.f
  rw [if_pos (by omega), if_pos (by omega), rdT]
 refine Ev.congr e0 (Ev.bind (refname_ev _) ?_)
 unfold trR
 have hth := hT.at hi
 generalize ts.getD i zT = t at hth
 by_cases hn : nameB t.f0 = true
 ·simp only [hn, ↓reduceIte]
  have h2 : Ev (fun k => r09_trans.l1 k (i : Int) (i : Int) nm ps ts t.f0 t.f1 t.f2 t.f3 t.f4) (transE (ps.length : Int) t) := by
   refine Ev.step (f := fun k => r09_trans.j2 k (decide (t.f4 < 0 ∨ t.f4 > 9)) nm ps ts t.f0 t.f1 t.f2 t.f3 t.f4) (fun k => ?_) ?_
   ·simp only [r09_trans.l1]
    rw [if_neg (by omega)]
    exact ite_or _ _ (fun b => r09_trans.j2 k b nm ps ts t.f0 t.f1 t.f2 t.f3 t.f4)
   ·unfold transE
    by_cases c : t.f4 < 0 ∨ t.f4 > 9
    ·rw [decide_eq_true c, if_pos c]
     exact Ev.one (fun k => by simp only [r09_trans.j2, ↓reduceIte])
    ·rw [decide_eq_false c, if_neg c]
     refine Ev.step (f := fun k => (r09_arcs.f k nm ps ts t.f1).bind fun a => if a = 0 then ((r09_arcs.f k nm ps ts t.f2).bind fun b => if b = 0 then ((r09_arcs.f k nm ps ts t.f3).bind fun c => some c) else some b) else some a) (fun k => by simp only [r09_trans.j2]; rw [if_neg Bool.false_ne_true]) ?_
     refine Ev.bind (refarcs_ev nm ps ts _ hth.2.1) ?_
     by_cases d1 : arcsE (ps.length : Int) t.f1 = 0
     ·rw [if_neg (by simpa using d1)]
      simp only [d1, ↓reduceIte]
      refine Ev.bind (refarcs_ev nm ps ts _ hth.2.2.1) ?_
      by_cases d2 : arcsE (ps.length : Int) t.f2 = 0
      ·rw [if_neg (by simpa using d2)]
       simp only [d2, ↓reduceIte]
       exact Ev.bind (refarcs_ev nm ps ts _ hth.2.2.2) (Ev.some _)
      ·rw [if_pos d2]
       simp only [d2, ↓reduceIte]
       exact Ev.some _
     ·rw [if_pos d1]
      simp only [d1, ↓reduceIte]
      exact Ev.some _
  have h1 := Ev_loop (L := fun k j => r09_trans.l1 k (i : Int) (j : Int) nm ps ts t.f0 t.f1 t.f2 t.f3 t.f4) (n := i) 1 (fun j => if (ts.getD j zT).f0.toList = t.f0.toList then some 6 else none) (e := transE (ps.length : Int) t)
   (fun k j hj => by
    simp only [r09_trans.l1]
    rw [if_pos (by omega), if_pos (by omega), if_pos (by omega), rdT, wrap_up hj (by omega)]
    by_cases c : (ts.getD j zT).f0.toList = t.f0.toList
    ·rw [if_pos c, if_pos c]; rfl
    ·rw [if_neg c, if_neg c]; rfl) h2
  have h0 := Ev_loop (L := fun k j => r09_trans.l0 k (i : Int) (j : Int) nm ps ts t.f0 t.f1 t.f2 t.f3 t.f4) (n := ps.length) 1 (fun j => if (ps.getD j zP).f0.toList = t.f0.toList then some 6 else none) (e := first (fun j => if (ts.getD j zT).f0.toList = t.f0.toList then some 6 else none) (transE (ps.length : Int) t) i)
   (fun k j hj => by
    simp only [r09_trans.l0]
    rw [if_pos (by omega), if_pos (by omega), rdP, wrap_up hj (by omega)]
    by_cases c : (ps.getD j zP).f0.toList = t.f0.toList
    ·rw [if_pos c, if_pos c]; rfl
    ·rw [if_neg c, if_neg c]; rfl)
   (Ev.step (f := fun k => r09_trans.l1 k (i : Int) ((0 : Nat) : Int) nm ps ts t.f0 t.f1 t.f2 t.f3 t.f4) (fun k => by simp only [r09_trans.l0]; rw [if_neg (by omega)]; rfl) h1)
  rw [first_any, first_any] at h0
  have e : (((ps.map (·.f0)) ++ (ts.take i).map (·.f0)).any fun o => o.toList == t.f0.toList) = true ↔ (∃ j, j < ps.length ∧ (ps.getD j zP).f0.toList = t.f0.toList) ∨ (∃ j, j < i ∧ (ts.getD j zT).f0.toList = t.f0.toList) := by
   rw [List.any_append, Bool.or_eq_true, any_take ts (·.f0) _ zT (by omega), any_all ps (·.f0) _ zP]
   simp only [beq_iff_eq]
  rw [nmE_loop _ _ hn]
  by_cases d : ∃ j, j < ps.length ∧ (ps.getD j zP).f0.toList = t.f0.toList
  ·rw [if_pos d] at h0
   rw [if_pos (e.2 (Or.inl d)), if_pos (by decide)]
   exact h0
  ·rw [if_neg d] at h0
   by_cases d2 : ∃ j, j < i ∧ (ts.getD j zT).f0.toList = t.f0.toList
   ·rw [if_pos d2] at h0
    rw [if_pos (e.2 (Or.inr d2)), if_pos (by decide)]
    exact h0
   ·rw [if_neg d2] at h0
    rw [if_neg (fun x => (e.1 x).elim d d2), if_neg (by decide)]
    exact h0
 ·simp only [hn]
  have : nmE (ps.map (·.f0) ++ (ts.take i).map (·.f0)) t.f0 = 5 := by unfold nmE; rw [if_neg hn]
  rw [this, if_pos (by decide)]
  exact Ev.some _
theorem refcheck_ev (nm : ByteArray) {ps : List Pla} {ts : List Tra} (hT : Thin ts) : Ev (fun k => r09_Check.f k nm ps ts) (checkS nm ps ts) := by
 unfold r09_Check.f checkS
 refine Ev.bind (refname_ev nm) ?_
 by_cases h1 : nameB nm = true
 ·simp only [h1, ↓reduceIte]
  have e0 : ∀ k, (if (ps.length : Int) < 1 then r09_Check.j0 k true nm ps ts else if (ps.length : Int) > 24 then r09_Check.j0 k true nm ps ts else r09_Check.j0 k (decide ((ts.length : Int) > 24)) nm ps ts) = r09_Check.j0 k (decide ((ps.length : Int) < 1 ∨ (24 : Int) < (ps.length : Int) ∨ (24 : Int) < (ts.length : Int))) nm ps ts := fun k => by
   rw [ite_or ((ps.length : Int) > 24) _ (fun b => r09_Check.j0 k b nm ps ts)]
   exact ite_or _ _ (fun b => r09_Check.j0 k b nm ps ts)
  refine Ev.congr e0 ?_
  by_cases h2 : (ps.length : Int) < 1 ∨ (24 : Int) < (ps.length : Int) ∨ (24 : Int) < (ts.length : Int)
  ·rw [decide_eq_true h2, if_pos h2]
   exact Ev.one (fun k => by simp only [r09_Check.j0, ↓reduceIte])
  ·rw [decide_eq_false h2, if_neg h2]
   refine Ev.step (f := fun k => r09_Check.l0 k ((0 : Nat) : Int) nm ps ts) (fun k => by simp only [r09_Check.j0]; rw [if_neg Bool.false_ne_true]; rfl) ?_
   have ht := Ev_first (L := fun k i => r09_Check.l1 k (i : Int) nm ps ts) (n := ts.length) (tF ps ts) (e := ((0 : Int), (0 : Int)))
    (fun i hi hf r hr => Ev.step (f := fun k => (r09_trans.f k nm ps ts (i : Int)).bind fun t => if t = 0 then r09_Check.l1 k ((i + 1 : Nat) : Int) nm ps ts else some (t, (ps.length : Int) + (i : Int))) (fun k => by
     simp only [r09_Check.l1]
     rw [if_pos (by omega), wrap_up hi (by omega), wrap_ok (x := (ps.length : Int) + (i : Int)) (by omega) (by omega)]) (by
      refine Ev.bind (reftrans_ev nm hi (by omega) (by omega) hT) ?_
      have hz := of_ite_none hf
      simp only [hz, ↓reduceIte]
      exact hr))
    (fun i r hi hf => Ev.step (f := fun k => (r09_trans.f k nm ps ts (i : Int)).bind fun t => if t = 0 then r09_Check.l1 k ((i + 1 : Nat) : Int) nm ps ts else some (t, (ps.length : Int) + (i : Int))) (fun k => by
     simp only [r09_Check.l1]
     rw [if_pos (by omega), wrap_up hi (by omega), wrap_ok (x := (ps.length : Int) + (i : Int)) (by omega) (by omega)]) (by
      refine Ev.bind (reftrans_ev nm hi (by omega) (by omega) hT) ?_
      obtain ⟨hz, rfl⟩ := of_ite_some hf
      simp only [hz, ↓reduceIte]
      exact Ev.some _))
    (Ev.one (fun k => by simp only [r09_Check.l1]; rw [if_neg (by omega)]))
   exact Ev_first (L := fun k i => r09_Check.l0 k (i : Int) nm ps ts) (n := ps.length) (pF ps) (e := first (tF ps ts) (0, 0) ts.length)
    (fun i hi hf r hr => Ev.step (f := fun k => (r09_place.f k nm ps ts (i : Int)).bind fun t => if t = 0 then r09_Check.l0 k ((i + 1 : Nat) : Int) nm ps ts else some (t, (i : Int))) (fun k => by
     simp only [r09_Check.l0]
     rw [if_pos (by omega), wrap_up hi (by omega)]) (by
      refine Ev.bind (refplace_ev nm ts hi (by omega)) ?_
      have hz := of_ite_none hf
      simp only [hz, ↓reduceIte]
      exact hr))
    (fun i r hi hf => Ev.step (f := fun k => (r09_place.f k nm ps ts (i : Int)).bind fun t => if t = 0 then r09_Check.l0 k ((i + 1 : Nat) : Int) nm ps ts else some (t, (i : Int))) (fun k => by
     simp only [r09_Check.l0]
     rw [if_pos (by omega), wrap_up hi (by omega)]) (by
      refine Ev.bind (refplace_ev nm ts hi (by omega)) ?_
      obtain ⟨hz, rfl⟩ := of_ite_some hf
      simp only [hz, ↓reduceIte]
      exact Ev.some _))
    (Ev.step (f := fun k => r09_Check.l1 k ((0 : Nat) : Int) nm ps ts) (fun k => by simp only [r09_Check.l0]; rw [if_neg (by omega)]; rfl) ht)
 ·simp only [h1]; exact Ev.some _
theorem refvalid_ev (nm : ByteArray) {ps : List Pla} {ts : List Tra} (hT : Thin ts) : Ev (fun k => r09_Valid.f k nm ps ts) (validS nm ps ts) := by
 unfold r09_Valid.f
 exact Ev.bind (refcheck_ev nm hT) (Ev.some _)
theorem refinitial_ev (nm : ByteArray) {ps : List Pla} {ts : List Tra} (hp : ps.length ≤ 1000000) (hT : Thin ts) : Ev (fun k => r09_Initial.f k nm ps ts) (initialS (validS nm ps ts) ps) := by
 have stp : ∀ i, i < ps.length → ∀ k, r09_Initial.l0 (k + 1) ((ps.take i).map (·.f1)) (i : Int) nm ps ts = (r09_Valid.f k nm ps ts).bind fun t => if t = true then r09_Initial.l0 k ((ps.take (i + 1)).map (·.f1)) ((i + 1 : Nat) : Int) nm ps ts else some ((ps.take i).map (·.f1)) := fun i hi k => by
  simp only [r09_Initial.l0]
  have hl : ((ps.take i).map (·.f1)).length < 17592186044416 := by simp only [List.length_map, List.length_take]; omega
  rw [if_pos (by omega), if_pos (by omega), if_pos hl, rdP, wrap_up hi (by omega), ← take_map_succ ps (fun a => a.f1) zP hi]
 unfold initialS
 by_cases hv : validS nm ps ts = true
 ·rw [if_pos hv]
  have h := Ev_up (L := fun k i => r09_Initial.l0 k ((ps.take i).map (·.f1)) (i : Int) nm ps ts) (n := ps.length) (r := ps.map (·.f1))
   (fun i hi hr => Ev.step (stp i hi) (Ev.bind (refvalid_ev nm hT) (by simp only [hv, ↓reduceIte]; exact hr)))
   (Ev.one (fun k => by simp only [r09_Initial.l0]; rw [if_neg (by omega), List.take_length]))
  unfold r09_Initial.f
  simpa using h
 ·rw [if_neg hv]
  unfold r09_Initial.f
  by_cases h0 : 0 < ps.length
  ·have := stp 0 h0
   simp only [List.take_zero, List.map_nil] at this
   exact Ev.step this (Ev.bind (refvalid_ev nm hT) (by simp only [hv]; exact Ev.some _))
  ·exact Ev.one (fun k => by simp only [r09_Initial.l0]; rw [if_neg (by omega)])
variable {nm : ByteArray} {ps : List Pla} {ts : List Tra} {m0 : List Int} {limit : Nat}
abbrev SRes := List (List Int) × Bool × Int
def marksS (tr : List Nd) : List (List Int) := tr.map (·.f2)
def setOf (r : TRes) : SRes := if r.2.2 = 0 then (if r.2.1 = true then (maxS (marksS r.1), true, 0) else ([], false, r.2.2)) else ([], false, r.2.2)
def setR (nm : ByteArray) (ps : List Pla) (ts : List Tra) (limit : Int) : SRes := setOf (treeR nm ps ts limit)
theorem marks_take (tr : List Nd) {i : Nat} (hi : i < tr.length) : marksS (tr.take (i + 1)) = marksS (tr.take i) ++ [(tr.getD i zN).f2] := by
 unfold marksS
 rw [take_next tr zN hi, List.map_append]
 rfl
theorem marks_len (tr : List Nd) (i : Nat) : (marksS (tr.take i)).length ≤ tr.length := by
 unfold marksS
 rw [List.length_map, List.length_take]
 exact Nat.min_le_right _ _
theorem treeR_ok {nm : ByteArray} {ps : List Pla} {ts : List Tra} {limit : Int} (h : (treeR nm ps ts limit).2.2 = 0) (h1 : (treeR nm ps ts limit).2.1 = true) :
  validS nm ps ts = true ∧ plainS true ps ts = true ∧ NetOk ps ts ∧ TreeOk ts ps.length (ps.map (·.f1)) (treeR nm ps ts limit).1 ∧ (treeR nm ps ts limit).1.length ≤ 20000 ∧ ∀ i, i < (treeR nm ps ts limit).1.length → Kids ts (treeR nm ps ts limit).1 i := by
 obtain ⟨L, e, h2, h3, hv, hpl, g⟩ := treeR_good h
 rcases g with g | ⟨_, ho, hl, hk⟩
 ·rw [g] at h1; cases h1
 ·exact ⟨hv, hpl, netOk hv hpl, ho, by omega, hk h1⟩
theorem marks_alike {ts : List Tra} {n : Nat} {m0 : List Int} {tr : List Nd} (h : TreeOk ts n m0 tr) : Alike n (marksS tr) := fun x hx => by
 obtain ⟨i, hi, rfl⟩ := mem_markings.1 hx
 exact h.om i hi
theorem max_marks {ts : List Tra} {n : Nat} {m0 : List Int} {tr : List Nd} (h : TreeOk ts n m0 tr) : conS [] (marksS tr) = marksS tr := by
 rw [conS_all (n := n) _ [] (fun x hx => by cases hx) (marks_alike h), List.nil_append]
theorem marks_small {ts : List Tra} {n : Nat} {m0 : List Int} {tr : List Nd} (h : TreeOk ts n m0 tr) (hn : n ≤ 17592186043904) : ∀ x ∈ marksS tr, x.length ≤ 17592186043904 := fun x hx => by
 rw [(marks_alike h x hx).len]; exact hn
theorem mset_ev (nm : ByteArray) {ps : List Pla} {ts : List Tra} (hp : ps.length ≤ 1000000) (ht : ts.length ≤ 1000000) (hT : Thin ts) (limit : Int) : Ev (fun k => qAX.f k nm ps ts limit) (setR nm ps ts limit) := by
 unfold qAX.f setR setOf
 refine Ev.bind (kTree_ev nm hp ht hT limit) ?_
 by_cases h : (treeR nm ps ts limit).2.2 = 0
 ·simp only [h, ↓reduceIte]
  refine Ev.up ?_
  cases h1 : (treeR nm ps ts limit).2.1 with
  | false =>
   simp only [qAX.j0, Bool.not_false, Bool.false_eq_true, ↓reduceIte]
   exact Ev.some _
  | true =>
   obtain ⟨hv, _, _, ho, hl, _⟩ := treeR_ok h h1
   generalize (treeR nm ps ts limit).1 = tr at ho hl ⊢
   simp only [qAX.j0, Bool.not_true, Bool.false_eq_true, ↓reduceIte]
   refine Ev_st (L := fun k s i => qAX.l0 k s tr (tr.length : Int) i) (n := tr.length) (fun i => marksS (tr.take i)) (fun i hi hs => ?_) ?_
   ·rw [marks_take tr hi] at hs
    have h5 := marks_len tr i
    refine Ev.up ?_
    simp only [qAX.l0, lt_int hi, nn, ↓reduceIte, rdN, wrap_up hi (by omega : tr.length ≤ 9223372036854775807), show (marksS (tr.take i)).length < 5864062014805 by omega]
    exact hs
   ·rw [List.take_length]
    refine Ev.up ?_
    simp only [qAX.l0, Int.lt_irrefl, ↓reduceIte]
    have := max_ev (marksS tr) (by unfold marksS; rw [List.length_map]; omega) (marks_small ho (by omega))
    rw [max_marks ho] at this
    exact Ev.bind this (Ev.some _)
 ·simp only [h, ↓reduceIte]
  refine Ev.up ?_
  simp only [qAX.j0, ↓reduceIte]
  exact Ev.some _
theorem setR_small (nm : ByteArray) {ps : List Pla} (hp : ps.length ≤ 1000000) (ts : List Tra) (limit : Int) : (setR nm ps ts limit).1.length ≤ 1000000 ∧ ∀ x ∈ (setR nm ps ts limit).1, x.length ≤ 1000000 := by
 unfold setR setOf
 by_cases h : (treeR nm ps ts limit).2.2 = 0
 ·rw [if_pos h]
  cases h1 : (treeR nm ps ts limit).2.1 with
  | false => simp
  | true =>
   obtain ⟨hv, _, _, ho, hl, _⟩ := treeR_ok h h1
   rw [if_pos rfl]
   have e := maxT_all (marksS (treeR nm ps ts limit).1)
   refine ⟨?_, fun x hx => ?_⟩
   ·have := maxT_len (marksS (treeR nm ps ts limit).1) _ (Nat.le_refl _)
    rw [e] at this
    have h2 : (marksS (treeR nm ps ts limit).1).length = (treeR nm ps ts limit).1.length := List.length_map _
    show (maxS (marksS (treeR nm ps ts limit).1)).length ≤ 1000000
    omega
   ·have := maxT_sub (marksS (treeR nm ps ts limit).1) _ (Nat.le_refl _) x (by rw [e]; exact hx)
    rw [(marks_alike ho x this).len]
    exact hp
 ·rw [if_neg h]; simp
def stp (a m : Int) : Int := if m = -1 ∨ a = -1 then -1 else if a < m then m else a
structure FewS (l : List (List Int)) : Prop where
 len : l.length ≤ 1000000
 row : ∀ x ∈ l, x.length ≤ 17592186043904
theorem FewS.con {l : List (List Int)} (h : FewS l) : FewS (conS [] l) := by
 refine ⟨?_, fun x hx => ?_⟩
 ·have := conS_len l []
  rw [List.length_nil] at this
  have := h.len
  omega
 ·rcases conS_sub l [] x hx with g | g
  ·cases g
  ·exact h.row x g
theorem FewS.get {l : List (List Int)} (h : FewS l) {i : Nat} (hi : i < l.length) : (l.getD i []).length ≤ 17592186043904 := h.row _ (getD_mem l [] hi)
theorem elements_ev {l : List (List Int)} (h : FewS l) : Ev (fun k => qAT.f k l) (conS [] l) := by
 have hl := h.len
 unfold qAT.f
 refine Ev_st (L := fun k s i => qAT.l0 k s l (l.length : Int) i) (n := l.length) (fun i => conS [] (l.take i)) (fun i hi hs => ?_) (Ev.one (fun k => by simp only [qAT.l0, Int.lt_irrefl, ↓reduceIte, List.take_length]))
 have hlen := conS_len (l.take i) []
 rw [List.length_take, List.length_nil] at hlen
 rw [conS_next l hi, keepS_eq] at hs
 generalize conS [] (l.take i) = a at hs hlen ⊢
 have h5 : a.length < 5864062014805 := by omega
 refine Ev.up ?_
 simp only [qAT.l0, lt_int hi, nn, ↓reduceIte, rdL, rdL0, wrap_up hi (by omega : l.length ≤ 9223372036854775807)]
 refine Ev.bind (omvalid_ev _ _ (h.get hi)) ?_
 by_cases c : omS (l.getD i []) ((l.getD i []).length : Int) = true
 ·simp only [c, ↓reduceIte] at hs ⊢
  by_cases d : a.length = 0
  ·simp only [d, Int.ofNat_zero, Int.natCast_zero, ↓reduceIte] at hs ⊢
   exact hs
  ·simp only [show ¬ (a.length : Int) = 0 by omega, show (0 : Int) < (a.length : Int) by omega, d, ↓reduceIte] at hs ⊢
   by_cases e : (a.getD 0 []).length = (l.getD i []).length
   ·simp only [show ((a.getD 0 []).length : Int) = ((l.getD i []).length : Int) by omega, e, h5, decide_true, ↓reduceIte] at hs ⊢
    exact hs
   ·simp only [show ¬ ((a.getD 0 []).length : Int) = ((l.getD i []).length : Int) by omega, e, decide_false, Bool.false_eq_true, ↓reduceIte] at hs ⊢
    exact hs
 ·simp only [c, Bool.false_eq_true, ↓reduceIte] at hs ⊢
  exact hs
def finT (m : List Int) : Nat → List Int
 | 0 => []
 | i + 1 => if m.getD i 0 = -1 then finT m i else finT m i ++ [(i : Int)]
theorem finT_succ (m : List Int) (i : Nat) : finT m (i + 1) = if m.getD i 0 = -1 then finT m i else finT m i ++ [(i : Int)] := rfl
theorem finT_len (m : List Int) : ∀ i, (finT m i).length ≤ i
 | 0 => Nat.le_refl _
 | i + 1 => by
  have := finT_len m i
  unfold finT
  split
  ·omega
  ·rw [List.length_append, List.length_singleton]; omega
theorem finT_all (m : List Int) : ∀ i, (finT m i).length = i ↔ ∀ j, j < i → m.getD j 0 ≠ -1
 | 0 => ⟨fun _ j hj => absurd hj (Nat.not_lt_zero _), fun _ => rfl⟩
 | i + 1 => by
  have ih := finT_all m i
  have hl := finT_len m i
  unfold finT
  by_cases c : m.getD i 0 = -1
  ·rw [if_pos c]
   exact ⟨fun h => by omega, fun h => absurd c (h i (Nat.lt_succ_self _))⟩
  ·rw [if_neg c, List.length_append, List.length_singleton]
   constructor
   ·intro h j hj
    by_cases e : j = i
    ·rw [e]; exact c
    ·exact ih.1 (by omega) j (by omega)
   ·intro h
    rw [ih.2 (fun j hj => h j (by omega))]
theorem finT_fin {m : List Int} : (finT m m.length).length = m.length ↔ Fin m := finT_all m m.length
theorem omfinite_ev (m : List Int) (hm : m.length ≤ 17592186043904) : Ev (fun k => qAP.f k m) (finT m m.length) := by
 unfold qAP.f
 refine Ev_st (L := fun k s i => qAP.l0 k s m (m.length : Int) i) (n := m.length) (fun i => finT m i) (fun i hi hs => ?_) (Ev.one (fun k => by simp only [qAP.l0, Int.lt_irrefl, ↓reduceIte]))
 have hl := finT_len m i
 refine Ev.up ?_
 rw [finT_succ] at hs
 simp only [qAP.l0, lt_int hi, nn, ↓reduceIte, rd_nat, show (finT m i).length < 17592186044416 by omega, wrap_up hi (by omega : m.length ≤ 9223372036854775807)]
 by_cases c : m.getD i 0 = -1
 · simp only [c, ↓reduceIte] at hs ⊢; exact hs
 · simp only [c, ↓reduceIte] at hs ⊢; exact hs
def cvS (a m : List Int) : Bool := if (finT m m.length).length = m.length then leqS m a else false
theorem omcovers_ev {a m : List Int} (ha : a.length ≤ 17592186043904) (hm : m.length ≤ 17592186043904) : Ev (fun k => qAQ.f k a m) (cvS a m) := by
 unfold qAQ.f
 refine Ev_ex (L := fun k i => qAQ.l0 k a m m (m.length : Int) (i : Int)) (n := m.length) (fun i => m.getD i 0 = -1) (a := false) (e := leqS m a) (fun i hi c => ?_) (fun i hi c s hs => ?_) (fun c => ?_) (fun c => ?_) (fun c => ?_)
 ·refine Ev.up ?_
  simp only [qAQ.l0, lt_int hi, nn, ↓reduceIte, rd_nat, c]
  exact Ev.some _
 ·refine Ev.up ?_
  simp only [qAQ.l0, lt_int hi, nn, ↓reduceIte, rd_nat, c, wrap_up hi (by omega : m.length ≤ 9223372036854775807)]
  exact hs
 ·refine Ev.up ?_
  simp only [qAQ.l0, Int.lt_irrefl, ↓reduceIte]
  exact Ev.bind (leq_ev m a hm ha) (Ev.some _)
 ·obtain ⟨j, hj, e⟩ := c
  unfold cvS
  rw [if_neg (fun h => finT_fin.1 h j hj e)]
 ·unfold cvS
  rw [if_pos (finT_fin.2 c)]
def cvL (l : List (List Int)) (m : List Int) : Bool := first (fun i => if cvS ((conS [] l).getD i []) m = true then some true else none) false (conS [] l).length
theorem cvL_iff {l : List (List Int)} {m : List Int} : cvL l m = true ↔ ∃ i, i < (conS [] l).length ∧ cvS ((conS [] l).getD i []) m = true := by
 unfold cvL
 rw [first_any]
 by_cases c : ∃ j, j < (conS [] l).length ∧ cvS ((conS [] l).getD j []) m = true
 · rw [if_pos c]; exact ⟨fun _ => c, fun _ => rfl⟩
 · rw [if_neg c]; exact ⟨fun h => (by cases h), fun h => absurd h c⟩
theorem mcovers_ev {l : List (List Int)} (h : FewS l) {m : List Int} (hm : m.length ≤ 17592186043904) : Ev (fun k => qAU.f k l m) (cvL l m) := by
 unfold qAU.f
 refine Ev.bind (elements_ev h) ?_
 have hc := h.con
 have hl := hc.len
 have e : cvL l m = if ∃ j, j < (conS [] l).length ∧ cvS ((conS [] l).getD j []) m = true then true else false := by unfold cvL; exact first_any _ _ _ _
 rw [e]
 generalize conS [] l = c at hc hl ⊢
 refine Ev_ex (L := fun k i => qAU.l0 k m c (c.length : Int) (i : Int)) (n := c.length) (fun i => cvS (c.getD i []) m = true) (a := true) (e := false) (fun i hi x => ?_) (fun i hi x s hs => ?_) (fun x => ?_) (fun x => if_pos x) (fun x => if_neg (fun ⟨j, hj, y⟩ => x j hj y))
 ·refine Ev.up ?_
  simp only [qAU.l0, lt_int hi, nn, ↓reduceIte, rdL]
  refine Ev.bind (omcovers_ev (hc.get hi) hm) ?_
  simp only [x, ↓reduceIte]
  exact Ev.some _
 ·refine Ev.up ?_
  simp only [qAU.l0, lt_int hi, nn, ↓reduceIte, rdL, wrap_up hi (by omega : c.length ≤ 9223372036854775807)]
  refine Ev.bind (omcovers_ev (hc.get hi) hm) ?_
  simp only [x, Bool.false_eq_true, ↓reduceIte]
  exact hs
 ·refine Ev.up ?_
  simp only [qAU.l0, Int.lt_irrefl, ↓reduceIte]
  exact Ev.some _
theorem mbounded_ev {l : List (List Int)} (h : FewS l) : Ev (fun k => qAW.f k l) (@ite _ (∃ i, i < (conS [] l).length ∧ (finT ((conS [] l).getD i []) ((conS [] l).getD i []).length).length ≠ ((conS [] l).getD i []).length) (Classical.propDecidable _) false (decide (((conS [] l).length : Int) > 0))) := by
 unfold qAW.f
 refine Ev.bind (elements_ev h) ?_
 have hc := h.con
 generalize conS [] l = c at hc ⊢
 have hl := hc.len
 refine Ev_ex (L := fun k i => qAW.l0 k c c (c.length : Int) (i : Int)) (n := c.length) (fun i => (finT (c.getD i []) (c.getD i []).length).length ≠ (c.getD i []).length) (a := false) (e := decide ((c.length : Int) > 0)) (fun i hi x => ?_) (fun i hi x s hs => ?_) (fun x => ?_) (fun x => @if_pos _ (Classical.propDecidable _) x _ _ _) (fun x => @if_neg _ (Classical.propDecidable _) (fun ⟨j, hj, y⟩ => x j hj y) _ _ _)
 ·have := finT_len (c.getD i []) (c.getD i []).length
  refine Ev.up ?_
  simp only [qAW.l0, lt_int hi, nn, ↓reduceIte, rdL]
  refine Ev.bind (omfinite_ev _ (hc.get hi)) ?_
  simp only [show ((finT (c.getD i []) (c.getD i []).length).length : Int) < ((c.getD i []).length : Int) by omega, ↓reduceIte]
  exact Ev.some _
 ·refine Ev.up ?_
  simp only [qAW.l0, lt_int hi, nn, ↓reduceIte, rdL, wrap_up hi (by omega : c.length ≤ 9223372036854775807)]
  refine Ev.bind (omfinite_ev _ (hc.get hi)) ?_
  simp only [show ¬ ((finT (c.getD i []) (c.getD i []).length).length : Int) < ((c.getD i []).length : Int) by omega, ↓reduceIte]
  exact hs
 ·refine Ev.up ?_
  simp only [qAW.l0, Int.lt_irrefl, ↓reduceIte]
  exact Ev.some _
theorem enab_lt {v : Bool} {ps : List Pla} {ts : List Tra} {m : List Int} {t : Int} (h : t ∈ enabS v ps ts m) : ∃ n : Nat, t = (n : Int) ∧ n < ts.length := by
 unfold enabS at h
 split at h
 ·obtain ⟨n, hn, rfl⟩ := List.mem_map.1 h
  exact ⟨n, rfl, List.mem_range.1 (List.mem_filter.1 hn).1⟩
 ·cases h
theorem enab_len (v : Bool) (ps : List Pla) (ts : List Tra) (m : List Int) : (enabS v ps ts m).length ≤ ts.length := by
 unfold enabS
 split
 ·rw [List.length_map]
  exact Nat.le_trans (List.length_filter_le _ _) (by rw [List.length_range]; exact Nat.le_refl _)
 ·exact Nat.zero_le _
def setT (ok : List Bool) (E : List Int) : Nat → List Bool
 | 0 => ok
 | j + 1 => (setT ok E j).set (E.getD j 0).toNat true
theorem setT_len (ok : List Bool) (E : List Int) : ∀ j, (setT ok E j).length = ok.length
 | 0 => rfl
 | j + 1 => by
  show ((setT ok E j).set (E.getD j 0).toNat true).length = _
  rw [List.length_set, setT_len ok E j]
def canT (F : List Int → List Int) (l : List (List Int)) (n : Nat) : Nat → List Bool
 | 0 => List.replicate n false
 | i + 1 => setT (canT F l n i) (F (l.getD i [])) (F (l.getD i [])).length
theorem canT_len (F : List Int → List Int) (l : List (List Int)) (n : Nat) : ∀ i, (canT F l n i).length = n
 | 0 => List.length_replicate
 | i + 1 => by
  show (setT _ _ _).length = n
  rw [setT_len, canT_len F l n i]
def onT (ok : List Bool) : Nat → List Int
 | 0 => []
 | i + 1 => if ok.getD i false = true then onT ok i ++ [(i : Int)] else onT ok i
theorem onT_succ (ok : List Bool) (i : Nat) : onT ok (i + 1) = if ok.getD i false = true then onT ok i ++ [(i : Int)] else onT ok i := rfl
theorem onT_len (ok : List Bool) : ∀ i, (onT ok i).length ≤ i
 | 0 => Nat.le_refl _
 | i + 1 => by
  have := onT_len ok i
  rw [onT_succ]
  split
  ·rw [List.length_append, List.length_singleton]; omega
  ·omega
def quasS (nm : ByteArray) (ps : List Pla) (ts : List Tra) (l : List (List Int)) : List Int := onT (canT (enabS (validS nm ps ts) ps ts) (conS [] l) ts.length (conS [] l).length) ts.length
theorem filter_ev {ok : List Bool} (h : ok.length ≤ 1000000) : Ev (fun k => qAY.f k (ok.length : Int) ok) (onT ok ok.length) := by
 unfold qAY.f
 refine Ev_st (L := fun k s i => qAY.l0 k (ok.length : Int) ok s i) (n := ok.length) (fun i => onT ok i) (fun i hi hs => ?_) (Ev.one (fun k => by simp only [qAY.l0, Int.lt_irrefl, ↓reduceIte]))
 have hl := onT_len ok i
 rw [onT_succ] at hs
 refine Ev.up ?_
 simp only [qAY.l0, mincover_Quasi_1.f, lt_int hi, nn, ↓reduceIte, rdOf_nat, Option.bind_some, show (onT ok i).length < 17592186044416 by omega, wrap_up hi (by omega : ok.length ≤ 9223372036854775807)]
 by_cases c : ok.getD i false = true
 · simp only [c, ↓reduceIte] at hs ⊢; exact hs
 · simp only [c, Bool.false_eq_true, ↓reduceIte] at hs ⊢; exact hs
section
variable {nm : ByteArray} {ps : List Pla} {ts : List Tra}
theorem mq_row {ok : List Bool} (hok : ok.length ≤ 1000000) {c : List (List Int)} {i : Int} {E : List Int} (hE : E.length ≤ 1000000) (he : ∀ t ∈ E, ∃ n : Nat, t = (n : Int) ∧ n < ok.length) {r : List Int} (h : Ev (fun k => qAV.l0 k (setT ok E E.length) c (c.length : Int) (wrap64 (i + 1)) nm ps ts) r) :
  Ev (fun k => qAV.l1 k ok c (c.length : Int) i E (E.length : Int) 0 nm ps ts) r := by
 refine Ev_st (L := fun k s j => qAV.l1 k s c (c.length : Int) i E (E.length : Int) j nm ps ts) (n := E.length) (fun j => setT ok E j) (fun j hj hs => ?_) ?_
 ·obtain ⟨n, e, hn⟩ := he _ (getD_mem E 0 hj)
  refine Ev.up ?_
  have hs' : Ev (fun k => qAV.l1 k ((setT ok E j).set (E.getD j 0).toNat true) c (c.length : Int) i E (E.length : Int) ((j + 1 : Nat) : Int) nm ps ts) r := hs
  simp only [qAV.l1, lt_int hj, nn, ↓reduceIte, rd_nat, e, setT_len, lt_int hn, wrap_up hj (by omega : E.length ≤ 9223372036854775807)] at hs' ⊢
  exact hs'
 ·refine Ev.up ?_
  simp only [qAV.l1, Int.lt_irrefl, ↓reduceIte]
  exact h
theorem mquasi_ev (hp : ps.length ≤ 1000000) (ht : ts.length ≤ 1000000) (hT : Thin ts) {l : List (List Int)} (h : FewS l) : Ev (fun k => qAV.f k nm ps ts l) (quasS nm ps ts l) := by
 unfold qAV.f quasS
 simp only [nn, Int.toNat_natCast, show ts.length ≤ 281474976710656 by omega, ↓reduceIte]
 refine Ev.bind (elements_ev h) ?_
 have hc := h.con
 generalize conS [] l = c at hc ⊢
 have hl := hc.len
 refine Ev_st (L := fun k s i => qAV.l0 k s c (c.length : Int) i nm ps ts) (n := c.length) (fun i => canT (enabS (validS nm ps ts) ps ts) c ts.length i) (fun i hi hs => ?_) ?_
 ·have hlen := canT_len (enabS (validS nm ps ts) ps ts) c ts.length i
  have hE := enab_len (validS nm ps ts) ps ts (c.getD i [])
  refine Ev.up ?_
  simp only [qAV.l0, lt_int hi, nn, ↓reduceIte, rdL]
  refine Ev.bind (kEnabled_ev nm hp ht hT (hc.get hi)) ?_
  refine mq_row (by omega) (by omega) (fun t h => by rw [hlen]; exact enab_lt h) ?_
  rw [wrap_up hi (by omega : c.length ≤ 9223372036854775807)]
  exact hs
 ·have hlen := canT_len (enabS (validS nm ps ts) ps ts) c ts.length c.length
  refine Ev.up ?_
  simp only [qAV.l0, Int.lt_irrefl, ↓reduceIte]
  have := filter_ev (ok := canT (enabS (validS nm ps ts) ps ts) c ts.length c.length) (by omega)
  rw [hlen] at this ⊢
  exact Ev.bind this (Ev.some _)
end
theorem weight11_ev (l : List Ac) (p : Int) (hl : l.length ≤ 1000000) : Ev (fun k => qBG.f k l p) (weightS l p) := by
 unfold qBG.f
 refine Ev_loop (L := fun k i => qBG.l0 k l p (i : Int)) 1 _ (fun k i hi => ?_) (Ev.one (fun k => by simp only [qBG.l0]; rw [if_neg (by omega)]))
 simp only [qBG.l0, lt_int hi, nn, ↓reduceIte, rdA, wrap_up hi (by omega : l.length ≤ 9223372036854775807)]
 by_cases c : (l.getD i zA).f0 = p
 · rw [if_pos c, if_pos c]; rfl
 · rw [if_neg c, if_neg c]; rfl
theorem plain_at {ps : List Pla} {ts : List Tra} (h : plainS true ps ts = true) : (∀ i, i < ps.length → (ps.getD i zP).f2 = 0) ∧ ∀ t, t < ts.length → (ts.getD t zT).f3 = [] ∧ (ts.getD t zT).f4 = 0 := by
 unfold plainS at h
 rw [plainT_eq] at h
 by_cases c : ∃ i, i < ts.length ∧ (((ts.getD i zT).f3.length : Int) > 0 ∨ (ts.getD i zT).f4 ≠ 0)
 ·rw [if_pos c] at h; cases h
 ·rw [if_neg c, plainP_eq] at h
  by_cases d : ∃ i, i < ps.length ∧ (ps.getD i zP).f2 ≠ 0
  ·rw [if_pos d] at h; cases h
  ·refine ⟨fun i hi => Classical.byContradiction fun x => d ⟨i, hi, x⟩, fun t ht => ⟨?_, Classical.byContradiction fun x => c ⟨t, ht, Or.inr x⟩⟩⟩
   apply Classical.byContradiction
   intro x
   refine c ⟨t, ht, Or.inl ?_⟩
   have : 0 < (ts.getD t zT).f3.length := List.length_pos_iff.2 x
   omega
variable {nm : ByteArray} {ps : List Pla} {ts : List Tra}
theorem ready_ev (h : NetOk ps ts) (hT : Thin ts) {m : List Int} (hm : Om ps.length m) (hf : Fin m) {t : Nat} (ht : t < ts.length) : Ev (fun k => qBH.f k nm ps ts m (t : Int)) (canS (ts.getD t zT) m) := by
 obtain ⟨hp1, hp2⟩ := plain_at h.plain
 obtain ⟨h3, h4⟩ := hp2 t ht
 have hl : m.length = ps.length := hm.len
 have hpl := h.places
 unfold qBH.f
 simp only [nn, lt_int ht, ↓reduceIte, rdT]
 unfold canS
 have step : ∀ i, i < ps.length → ∀ r, (if m.getD i 0 ≠ -1 ∧ m.getD i 0 < weightS (ts.getD t zT).f1 (i : Int) then r = false else Ev (fun k => qBH.l0 k m ((i + 1 : Nat) : Int) nm ps ts (ts.getD t zT).f0 (ts.getD t zT).f1 (ts.getD t zT).f2 (ts.getD t zT).f3 (ts.getD t zT).f4) r) → Ev (fun k => qBH.l0 k m (i : Int) nm ps ts (ts.getD t zT).f0 (ts.getD t zT).f1 (ts.getD t zT).f2 (ts.getD t zT).f3 (ts.getD t zT).f4) r := by
  intro i hi r hr
  refine Ev.up ?_
  have hi2 : i < m.length := by omega
  have hne := hf i hi2
  simp only [qBH.l0, lt_int hi, lt_int hi2, nn, ↓reduceIte, rd_nat, rdP, hp1 i hi, Int.lt_irrefl, gt_iff_lt, wrap_up hi (by omega : ps.length ≤ 9223372036854775807)]
  refine Ev.bind (weight11_ev _ _ (by rw [h3]; simp)) ?_
  refine Ev.bind (weight11_ev _ _ (hT.at ht).2.1) ?_
  refine Ev.bind (weight11_ev _ _ (hT.at ht).2.2.1) ?_
  refine Ev.bind (weight11_ev _ _ (hT.at ht).2.1) ?_
  have e : weightS (ts.getD t zT).f3 (i : Int) = 0 := by rw [h3]; rfl
  rw [e]
  by_cases d : m.getD i 0 < weightS (ts.getD t zT).f1 (i : Int)
  ·simp only [d, hne, ne_eq, not_false_eq_true, and_self, ↓reduceIte, true_and] at hr ⊢
   rw [hr]; exact Ev.some _
  ·simp only [d, hne, ne_eq, not_false_eq_true, and_false, ↓reduceIte, true_and, Int.lt_irrefl] at hr ⊢
   exact hr
 rw [hl]
 refine Ev_first (L := fun k i => qBH.l0 k m (i : Int) nm ps ts (ts.getD t zT).f0 (ts.getD t zT).f1 (ts.getD t zT).f2 (ts.getD t zT).f3 (ts.getD t zT).f4) _ (fun i hi hp r hr => step i hi r ?_) (fun i r hi hp => step i hi r ?_) (Ev.one (fun k => by simp only [qBH.l0]; rw [if_neg (by omega)]))
 ·have : ¬ (m.getD i 0 ≠ -1 ∧ m.getD i 0 < weightS (ts.getD t zT).f1 (i : Int)) := fun x => by rw [if_pos x] at hp; cases hp
  rw [if_neg this]; exact hr
 ·by_cases x : m.getD i 0 ≠ -1 ∧ m.getD i 0 < weightS (ts.getD t zT).f1 (i : Int)
  ·rw [if_pos x] at hp ⊢; exact (Option.some.inj hp).symm
  ·rw [if_neg x] at hp; cases hp
theorem keep_ev (h : NetOk ps ts) (L : List Int) (hL : L.length ≤ 1000000) (hr : ∀ i, i < L.length → ∃ t : Nat, L.getD i 0 = (t : Int) ∧ t < ts.length) : Ev (fun k => r11_Fires.l1 k L 0 ([] : List Int) 0 nm ps ts) L := by
 obtain ⟨hp1, hp2⟩ := plain_at h.plain
 have := Ev_up (L := fun k i => r11_Fires.l1 k L 0 (L.take i) (i : Int) nm ps ts) (n := L.length) (r := L) (fun i hi hs => by
  refine Ev.up ?_
  obtain ⟨t, e, ht⟩ := hr i hi
  have e2 : L.take (i + 1) = L.take i ++ [L.getD i 0] := by
   have := take_map_succ L id 0 (i := i) hi
   simpa using this
  rw [e2] at hs
  simp only [r11_Fires.l1, lt_int hi, nn, ↓reduceIte, rd_nat, e, lt_int ht, rdT, (hp2 t ht).2, show (L.take i).length < 17592186044416 by rw [List.length_take]; omega, wrap_up hi (by omega : L.length ≤ 9223372036854775807)]
  rw [e] at hs
  exact hs) (Ev.one (fun k => by simp only [r11_Fires.l1]; rw [if_neg (by omega), List.take_length]))
 simpa using this
theorem fires_ev (h : NetOk ps ts) (hT : Thin ts) {m : List Int} (hm : Om ps.length m) (hf : Fin m) : Ev (fun k => r11_Fires.f k nm ps ts m) (enabS true ps ts m) := by
 obtain ⟨hp1, hp2⟩ := plain_at h.plain
 have htl := h.trans
 unfold r11_Fires.f enabS
 rw [if_pos (h.fits hm)]
 refine Ev_up (L := fun k i => r11_Fires.l0 k m (((List.range i).filter (fun t => canS (ts.getD t zT) m)).map (fun t : Nat => (t : Int))) 0 (i : Int) nm ps ts) (n := ts.length) (fun i hi hr => ?_) ?_
 ·refine Ev.up ?_
  have fl := filter_len (fun t => canS (ts.getD t zT) m) i
  have e0 : mx 0 0 = 0 := by unfold mx; rw [if_neg (by omega)]
  simp only [r11_Fires.l0, lt_int hi, nn, ↓reduceIte, rdT, (hp2 i hi).2, e0, wrap_up hi (by omega : ts.length ≤ 9223372036854775807), show (((List.range i).filter (fun t => canS (ts.getD t zT) m)).map (fun t : Nat => (t : Int))).length < 17592186044416 by omega]
  refine Ev.bind (ready_ev h hT hm hf hi) ?_
  rw [filter_next] at hr
  by_cases c : canS (ts.getD i zT) m = true
  ·simp only [c, ↓reduceIte] at hr ⊢; exact hr
  ·simp only [c] at hr ⊢; exact hr
 ·refine Ev.up ?_
  simp only [r11_Fires.l0, Int.lt_irrefl, ↓reduceIte]
  have fl := filter_len (fun t => canS (ts.getD t zT) m) ts.length
  refine keep_ev h _ (by omega) (fun i hi => ?_)
  have hmem := getD_mem (((List.range ts.length).filter (fun t => canS (ts.getD t zT) m)).map (fun t : Nat => (t : Int))) 0 hi
  obtain ⟨t, ht, e⟩ := List.mem_map.1 hmem
  exact ⟨t, e.symm, List.mem_range.1 (List.mem_filter.1 ht).1⟩
theorem after_ev (h : NetOk ps ts) (hT : Thin ts) {m : List Int} (hm : Om ps.length m) (hf : Fin m) {t : Nat} (ht : t < ts.length) : Ev (fun k => r11_After.f k nm ps ts m (t : Int)) (goS (ts.getD t zT) m) := by
 have hl : m.length = ps.length := hm.len
 have hpl := h.places
 obtain ⟨h1, h2⟩ := h.arcs t ht
 unfold r11_After.f
 have step : ∀ i, i < ps.length → ∀ r, (if (movS (ts.getD t zT) m).getD i 0 > 1048576 then r = (([] : List Int), false) else Ev (fun k => r11_After.l0 k m (t : Int) ((movS (ts.getD t zT) m).take (i + 1)) ((i + 1 : Nat) : Int) nm ps ts) r) → Ev (fun k => r11_After.l0 k m (t : Int) ((movS (ts.getD t zT) m).take i) (i : Int) nm ps ts) r := by
  intro i hi r hr
  refine Ev.up ?_
  have hi2 : i < m.length := by omega
  have e : (movS (ts.getD t zT) m).take (i + 1) = (movS (ts.getD t zT) m).take i ++ [(movS (ts.getD t zT) m).getD i 0] := by
   have := take_map_succ (movS (ts.getD t zT) m) id 0 (i := i) (by rw [movS_len]; exact hi2)
   simpa using this
  have lt : ((movS (ts.getD t zT) m).take i).length < 17592186044416 := by rw [List.length_take, movS_len]; omega
  have g := movS_get (ts.getD t zT) m hi2
  rw [if_neg (hf i hi2)] at g
  have c0 := hm.cases hi
  simp only [r11_After.l0, lt_int hi, lt_int hi2, lt_int ht, nn, ↓reduceIte, rd_nat, rdT, wrap_up hi (by omega : ps.length ≤ 9223372036854775807), lt]
  refine Ev.bind (weight11_ev _ _ (hT.at ht).2.1) ?_
  refine Ev.bind (weight11_ev _ _ (hT.at ht).2.2.1) ?_
  have w1 := weight_nn h1 (i : Int)
  have w2 := weight_nn h2 (i : Int)
  rw [wrap_ok (x := m.getD i 0 - weightS (ts.getD t zT).f1 (i : Int)) (by omega) (by omega), wrap_ok (by omega) (by omega)]
  rw [e, g] at hr
  by_cases d : m.getD i 0 - weightS (ts.getD t zT).f1 (i : Int) + weightS (ts.getD t zT).f2 (i : Int) > 1048576
  ·simp only [d, ↓reduceIte] at hr ⊢
   rw [hr]; exact Ev.some _
  ·simp only [d, ↓reduceIte] at hr ⊢
   exact hr
 have main := Ev_first (L := fun k i => r11_After.l0 k m (t : Int) ((movS (ts.getD t zT) m).take i) (i : Int) nm ps ts) (n := ps.length) (fun i => if (movS (ts.getD t zT) m).getD i 0 > 1048576 then some (([] : List Int), false) else none) (e := (movS (ts.getD t zT) m, true)) (fun i hi hp r hr => step i hi r ?_) (fun i r hi hp => step i hi r ?_) ?_
 ·refine Eq.mp ?_ main
  congr 1
  unfold goS overS
  rw [first_any, first_any, movS_len, hl]
  by_cases c : ∃ j, j < ps.length ∧ (movS (ts.getD t zT) m).getD j 0 > 1048576
  ·rw [if_pos c, if_pos c]; rfl
  ·rw [if_neg c, if_neg c]; rfl
 ·have : ¬ (movS (ts.getD t zT) m).getD i 0 > 1048576 := fun x => by rw [if_pos x] at hp; cases hp
  rw [if_neg this]; exact hr
 ·by_cases x : (movS (ts.getD t zT) m).getD i 0 > 1048576
  ·rw [if_pos x] at hp ⊢; exact (Option.some.inj hp).symm
  ·rw [if_neg x] at hp; cases hp
 ·refine Ev.one (fun k => ?_)
  simp only [r11_After.l0]
  rw [if_neg (by omega), List.take_of_length_le (by rw [movS_len]; omega)]
abbrev Edg := S59
abbrev zE : Edg := z59
abbrev XRes := List (List Int) × List Edg × Bool × Int
theorem take_nx {α : Type} (l : List α) (z : α) {i : Nat} (h : i < l.length) : l.take (i + 1) = l.take i ++ [l.getD i z] := by
 rw [List.take_succ_eq_append_getElem h, List.getD_eq_getElem?_getD, List.getElem?_eq_getElem h]; rfl
def findS (l : List (List Int)) (m : List Int) : Int := first (fun i => if l.getD i [] = m then some (i : Int) else none) (-1) l.length
theorem find_cases (l : List (List Int)) (m : List Int) : (findS l m = -1 ∧ m ∉ l) ∨ ∃ j : Nat, j < l.length ∧ findS l m = (j : Int) ∧ l.getD j [] = m := by
 unfold findS
 rcases qCP (fun i => if l.getD i [] = m then some (i : Int) else none) (-1) l.length with ⟨h1, h2⟩ | ⟨j, h1, h2, h3⟩
 ·refine Or.inl ⟨h1, fun hm => ?_⟩
  obtain ⟨j, hj, ej⟩ := List.getElem_of_mem hm
  have e2 : l.getD j [] = m := by rw [List.getD_eq_getElem?_getD, List.getElem?_eq_getElem hj]; exact ej
  have := h2 j hj
  rw [if_pos e2] at this
  cases this
 ·by_cases c : l.getD j [] = m
  ·rw [if_pos c] at h2
   exact Or.inr ⟨j, h1, (Option.some.inj h2).symm, c⟩
  ·rw [if_neg c] at h2; cases h2
theorem find_ev {l : List (List Int)} (hl : l.length ≤ 1000000) (hr : ∀ m ∈ l, m.length ≤ 17592186043904) (m : List Int) : Ev (fun k => r14_Find.f k l m) (findS l m) := by
 unfold r14_Find.f findS
 refine Ev_first (L := fun k i => r14_Find.l0 k l m (i : Int)) (n := l.length) (fun i => if l.getD i [] = m then some (i : Int) else none) (fun i hi hp r hs => ?_) (fun i r hi hp => ?_) (Ev.one (fun k => by simp only [r14_Find.l0]; rw [if_neg (by omega)]))
 ·by_cases c : l.getD i [] = m
  ·rw [if_pos c] at hp; cases hp
  ·refine Ev.up ?_
   simp only [r14_Find.l0, lt_int hi, nn, ↓reduceIte, rdL, wrap_up hi (by omega : l.length ≤ 9223372036854775807)]
   refine Ev.bind (same04_ev _ _ (hr _ (getD_mem l [] hi))) ?_
   rw [decide_eq_false c]
   simp only [Bool.false_eq_true, ↓reduceIte]
   exact hs
 ·by_cases c : l.getD i [] = m
  ·rw [if_pos c] at hp
   obtain rfl := Option.some.inj hp
   refine Ev.up ?_
   simp only [r14_Find.l0, lt_int hi, nn, ↓reduceIte, rdL]
   refine Ev.bind (same04_ev _ _ (hr _ (getD_mem l [] hi))) ?_
   rw [decide_eq_true c]
   simp only [↓reduceIte]
   exact Ev.some _
  ·rw [if_neg c] at hp; cases hp
theorem ll_snoc {α : Type} (l : List α) (x : α) : (l ++ [x]).length = l.length + 1 := by rw [List.length_append, List.length_singleton]
def EdgeOk (ts : List Tra) (l : List (List Int)) (e : Edg) : Prop := ∃ i t j : Nat, e = ⟨(i : Int), (t : Int), (j : Int)⟩ ∧ i < l.length ∧ j < l.length ∧ t < ts.length ∧ Can (ts.getD t zT) (l.getD i []) ∧ l.getD j [] = movS (ts.getD t zT) (l.getD i [])
theorem EdgeOk.up {ts : List Tra} {l l' : List (List Int)} {e : Edg} (h : EdgeOk ts l e) (hl : l.length ≤ l'.length) (hs : ∀ j, j < l.length → l'.getD j [] = l.getD j []) : EdgeOk ts l' e := by
 obtain ⟨i, t, j, h1, h2, h3, h4, h5, h6⟩ := h
 exact ⟨i, t, j, h1, by omega, by omega, h4, by rw [hs i h2]; exact h5, by rw [hs j h3, hs i h2]; exact h6⟩
structure InX (ts : List Tra) (n : Nat) (m0 : List Int) (many : Nat) (l : List (List Int)) (ed : List Edg) : Prop where
 first : m0 ∈ l
 om : ∀ m ∈ l, Om n m ∧ Fin m
 nd : l.Nodup
 len : l.length ≤ many
 sub : ∀ T, Closed ts n m0 T → ∀ m ∈ l, m ∈ T
 edge : ∀ e ∈ ed, EdgeOk ts l e
structure FullX (ts : List Tra) (n : Nat) (m0 : List Int) (many : Nat) (l : List (List Int)) (ed : List Edg) : Prop where
 inx : InX ts n m0 many l ed
 el : ed.length ≤ 1000000000
 all : ∀ i, i < l.length → ∀ t, t < ts.length → Can (ts.getD t zT) (l.getD i []) → ∃ j : Nat, (⟨(i : Int), (t : Int), (j : Int)⟩ : Edg) ∈ ed
theorem FullX.closed {ts : List Tra} {n : Nat} {m0 : List Int} {many : Nat} {l : List (List Int)} {ed : List Edg} (h : FullX ts n m0 many l ed) : Closed ts n m0 l := by
 refine ⟨h.inx.first, h.inx.om, fun m hm t ht hc => ?_⟩
 obtain ⟨i, hi, ei⟩ := List.getElem_of_mem hm
 have e2 : l.getD i [] = m := by rw [List.getD_eq_getElem?_getD, List.getElem?_eq_getElem hi]; exact ei
 obtain ⟨j, hj⟩ := h.all i hi t ht (by rw [e2]; exact hc)
 obtain ⟨i', t', j', h1, h2, h3, h4, h5, h6⟩ := h.inx.edge _ hj
 injection h1 with a b c
 obtain rfl : i = i' := by omega
 obtain rfl : t = t' := by omega
 rw [← e2, ← h6]
 exact getD_mem l [] h3
def GoodX (ts : List Tra) (n : Nat) (m0 : List Int) (many : Nat) (r : XRes) : Prop := r.2.2.2 ≠ 0 ∨ (r.2.2.2 = 0 ∧ (r.2.2.1 = true → FullX ts n m0 many r.1 r.2.1))
variable {nm : ByteArray} {ps : List Pla} {ts : List Tra} {m0 : List Int} {many : Nat}
theorem xround_ev (h : NetOk ps ts) (hT : Thin ts) (hmany : many ≤ 100000) {i : Nat} {mi : List Int} {L : List Int} (hL : L.length ≤ 1000000) (hmi : Om ps.length mi ∧ Fin mi) : ∀ (rest : List Int) (x : Nat) (l : List (List Int)) (ed : List Edg) (b : Bool), L.drop x = rest → InX ts ps.length m0 many l ed → ed.length + rest.length ≤ 1000000000000 → i < l.length → l.getD i [] = mi → (∀ t ∈ rest, ∃ t' : Nat, t = (t' : Int) ∧ t' < ts.length ∧ Can (ts.getD t' zT) mi) →
  (∃ r, Ev (fun k => qBF.l2 k (many : Int) (i : Int) L (x : Int) nm ps ts l ed b) r ∧ r.2.2.2 ≠ 0) ∨
  (∃ l' ed' b', InX ts ps.length m0 many l' ed' ∧ l.length ≤ l'.length ∧ (∀ j, j < l.length → l'.getD j [] = l.getD j []) ∧ (∀ e ∈ ed, e ∈ ed') ∧ ed'.length ≤ ed.length + rest.length ∧ (b' = true → b = true ∧ ∀ t : Nat, (t : Int) ∈ rest → ∃ j : Nat, (⟨(i : Int), (t : Int), (j : Int)⟩ : Edg) ∈ ed') ∧
   ∀ r, Ev (fun k => qBF.l1 k (many : Int) ((i + 1 : Nat) : Int) nm ps ts l' ed' b') r → Ev (fun k => qBF.l2 k (many : Int) (i : Int) L (x : Int) nm ps ts l ed b) r)
 | [], x, l, ed, b, hx, hin, hed, hi, hm, hr => by
  have hx2 : L.length ≤ x := by
   apply Classical.byContradiction
   intro c
   have := congrArg List.length hx
   rw [List.length_drop] at this
   simp at this
   omega
  have hlen := hin.len
  refine Or.inr ⟨l, ed, b, hin, Nat.le_refl _, fun _ _ => rfl, fun _ h => h, by simp, fun hb => ⟨hb, fun t ht => (by cases ht)⟩, fun r hs => Ev.up ?_⟩
  simp only [qBF.l2, show ¬ ((x : Int) < (L.length : Int)) by omega, ↓reduceIte, wrap_up hi (by omega : l.length ≤ 9223372036854775807)]
  exact hs
 | t :: rest, x, l, ed, b, hx, hin, hed, hi, hm, hr => by
  have hx2 : x < L.length := by
   apply Classical.byContradiction
   intro c
   rw [List.drop_of_length_le (by omega)] at hx
   cases hx
  have ht0 : L.getD x 0 = t := by
   rw [List.getD_eq_getElem?_getD, ← List.head?_drop, hx]; rfl
  have hx3 : L.drop (x + 1) = rest := by
   rw [← List.drop_drop, hx]; rfl
  obtain ⟨t', rfl, ht, hc⟩ := hr t (List.mem_cons_self ..)
  have hlen := hin.len
  have hpl := h.places
  rw [List.length_cons] at hed
  have hmem : mi ∈ l := by rw [← hm]; exact getD_mem l [] hi
  have hrow : ∀ m ∈ l, m.length ≤ 17592186043904 := fun m hm => (hin.om m hm).1.le hpl
  rcases goS_cases (ts.getD t' zT) mi with ⟨e, hf⟩ | ⟨e, hf⟩
  ·have ar := h.arcs t' ht
   have mo := movS_om hmi.1 ar.1 ar.2 hc hf
   have mf := movS_fin ar.2 hmi.2 hc
   have start : ∀ {r : XRes}, Ev (fun k => if findS l (movS (ts.getD t' zT) mi) < 0 then qBF.j4 k (many : Int) (i : Int) L (x : Int) (movS (ts.getD t' zT) mi) (findS l (movS (ts.getD t' zT) mi)) (decide ((l.length : Int) ≥ (many : Int))) nm ps ts l ed b else qBF.j4 k (many : Int) (i : Int) L (x : Int) (movS (ts.getD t' zT) mi) (findS l (movS (ts.getD t' zT) mi)) false nm ps ts l ed b) r → Ev (fun k => qBF.l2 k (many : Int) (i : Int) L (x : Int) nm ps ts l ed b) r := fun hs => by
    refine Ev.up ?_
    simp only [qBF.l2, lt_int hx2, lt_int hi, nn, ↓reduceIte, rd_nat, rdL, ht0, hm]
    refine Ev.bind (after_ev h hT hmi.1 hmi.2 ht) ?_
    rw [e]
    simp only [↓reduceIte]
    exact Ev.bind (find_ev (by omega) hrow _) hs
   have later : ∀ (l' : List (List Int)) (ed' : List Edg) (b1 : Bool), InX ts ps.length m0 many l' ed' → l.length ≤ l'.length → (∀ j, j < l.length → l'.getD j [] = l.getD j []) → (∀ e ∈ ed, e ∈ ed') → ed'.length ≤ ed.length + 1 → (b1 = true → b = true ∧ ∃ j : Nat, (⟨(i : Int), (t' : Int), (j : Int)⟩ : Edg) ∈ ed') →
     (∀ r, Ev (fun k => qBF.l2 k (many : Int) (i : Int) L ((x + 1 : Nat) : Int) nm ps ts l' ed' b1) r → Ev (fun k => qBF.l2 k (many : Int) (i : Int) L (x : Int) nm ps ts l ed b) r) →
     (∃ r, Ev (fun k => qBF.l2 k (many : Int) (i : Int) L (x : Int) nm ps ts l ed b) r ∧ r.2.2.2 ≠ 0) ∨
     (∃ l' ed' b', InX ts ps.length m0 many l' ed' ∧ l.length ≤ l'.length ∧ (∀ j, j < l.length → l'.getD j [] = l.getD j []) ∧ (∀ e ∈ ed, e ∈ ed') ∧ ed'.length ≤ ed.length + ((t' : Int) :: rest).length ∧ (b' = true → b = true ∧ ∀ t : Nat, (t : Int) ∈ (t' : Int) :: rest → ∃ j : Nat, (⟨(i : Int), (t : Int), (j : Int)⟩ : Edg) ∈ ed') ∧
      ∀ r, Ev (fun k => qBF.l1 k (many : Int) ((i + 1 : Nat) : Int) nm ps ts l' ed' b') r → Ev (fun k => qBF.l2 k (many : Int) (i : Int) L (x : Int) nm ps ts l ed b) r) := by
    intro l' ed' b1 hin' hll hsame hsub hel hb1 hgo
    rcases xround_ev (i := i) h hT hmany hL hmi rest (x + 1) l' ed' b1 hx3 hin' (by omega) (by omega) (by rw [hsame i hi]; exact hm) (fun s hs => hr s (List.mem_cons_of_mem _ hs)) with ⟨r, h1, h2⟩ | ⟨l2, ed2, b2, g1, g2, g3, g4, g5, g6, g7⟩
    ·exact Or.inl ⟨r, hgo r h1, h2⟩
    ·refine Or.inr ⟨l2, ed2, b2, g1, by omega, fun j hj => (g3 j (Nat.lt_of_lt_of_le hj hll)).trans (hsame j hj), fun e he => g4 e (hsub e he), by rw [List.length_cons]; omega, fun hb2 => ?_, fun r hs => hgo r (g7 r hs)⟩
     obtain ⟨k1, k2⟩ := g6 hb2
     obtain ⟨k3, j, k4⟩ := hb1 k1
     refine ⟨k3, fun s hs => ?_⟩
     rcases List.mem_cons.1 hs with c | c
     ·obtain rfl : s = t' := by omega
      exact ⟨j, g4 _ k4⟩
     ·exact k2 s c
   rcases find_cases l (movS (ts.getD t' zT) mi) with ⟨e1, hno⟩ | ⟨j, hj, e1, ej⟩
   ·rw [e1] at start
    simp only [show ((-1 : Int) < 0) = True by simp, ↓reduceIte] at start
    by_cases d : (l.length : Int) ≥ (many : Int)
    ·refine later l ed false hin (Nat.le_refl _) (fun _ _ => rfl) (fun _ h => h) (by omega) (fun hb => by cases hb) (fun r hs => start (Ev.up ?_))
     simp only [qBF.j4, d, decide_true, ↓reduceIte, wrap_up hx2 (by omega : L.length ≤ 9223372036854775807)]
     exact hs
    ·have hsnoc : ∀ j, j < l.length → (l ++ [movS (ts.getD t' zT) mi]).getD j [] = l.getD j [] := fun j hj => by rw [getD_app, if_neg (by omega)]
     have hlast : (l ++ [movS (ts.getD t' zT) mi]).getD l.length [] = movS (ts.getD t' zT) mi := by
      rw [List.getD_eq_getElem?_getD, List.getElem?_append_right (Nat.le_refl _), Nat.sub_self]; rfl
     have hnew : EdgeOk ts (l ++ [movS (ts.getD t' zT) mi]) ⟨(i : Int), (t' : Int), (l.length : Int)⟩ := ⟨i, t', l.length, rfl, by rw [ll_snoc]; omega, by rw [ll_snoc]; omega, ht, by rw [hsnoc i hi, hm]; exact hc, by rw [hlast, hsnoc i hi, hm]⟩
     have hin' : InX ts ps.length m0 many (l ++ [movS (ts.getD t' zT) mi]) (ed ++ [⟨(i : Int), (t' : Int), (l.length : Int)⟩]) := by
      refine ⟨List.mem_append.2 (Or.inl hin.first), fun m hm => ?_, ?_, by rw [ll_snoc]; omega, fun T hTc m hm => ?_, fun e he => ?_⟩
      ·rcases List.mem_append.1 hm with e | e
       ·exact hin.om m e
       ·rw [List.mem_singleton.1 e]; exact ⟨mo, mf⟩
      ·refine List.nodup_append.2 ⟨hin.nd, by simp, fun a ha b hb => ?_⟩
       rw [List.mem_singleton.1 hb]
       exact fun e => hno (e ▸ ha)
      ·rcases List.mem_append.1 hm with e | e
       ·exact hin.sub T hTc m e
       ·rw [List.mem_singleton.1 e]; exact hTc.next mi (hin.sub T hTc mi hmem) t' ht hc
      ·rcases List.mem_append.1 he with e2 | e2
       ·exact (hin.edge e e2).up (by rw [ll_snoc]; omega) hsnoc
       ·rw [List.mem_singleton.1 e2]; exact hnew
     refine later _ _ b hin' (by rw [ll_snoc]; omega) hsnoc (fun e he => List.mem_append.2 (Or.inl he)) (by rw [ll_snoc]; omega) (fun hb => ⟨hb, l.length, List.mem_append.2 (Or.inr (List.mem_singleton.2 rfl))⟩) (fun r hs => start (Ev.up ?_))
     simp only [qBF.j4, d, decide_false, Bool.false_eq_true, show ((-1 : Int) < 0) = True by simp, ↓reduceIte, show l.length < 5864062014805 by omega, nn, lt_int hx2, show ed.length < 5864062014805 by omega, rd_nat, ht0, wrap_up hx2 (by omega : L.length ≤ 9223372036854775807)]
     exact hs
   ·rw [e1] at start
    simp only [show ¬ ((j : Int) < 0) by omega, ↓reduceIte] at start
    have hnew : EdgeOk ts l ⟨(i : Int), (t' : Int), (j : Int)⟩ := ⟨i, t', j, rfl, hi, hj, ht, by rw [hm]; exact hc, by rw [ej, hm]⟩
    refine later l (ed ++ [⟨(i : Int), (t' : Int), (j : Int)⟩]) b ⟨hin.first, hin.om, hin.nd, hin.len, hin.sub, fun e he => ?_⟩ (Nat.le_refl _) (fun _ _ => rfl) (fun e he => List.mem_append.2 (Or.inl he)) (by rw [ll_snoc]; omega) (fun hb => ⟨hb, j, List.mem_append.2 (Or.inr (List.mem_singleton.2 rfl))⟩) (fun r hs => start (Ev.up ?_))
    ·rcases List.mem_append.1 he with e2 | e2
     ·exact hin.edge e e2
     ·rw [List.mem_singleton.1 e2]; exact hnew
    ·simp only [qBF.j4, Bool.false_eq_true, show ¬ ((j : Int) < 0) by omega, ↓reduceIte, nn, lt_int hx2, show ed.length < 5864062014805 by omega, rd_nat, ht0, wrap_up hx2 (by omega : L.length ≤ 9223372036854775807)]
     exact hs
  ·refine Or.inl ⟨([], [], false, 3), ?_, by decide⟩
   refine Ev.up ?_
   simp only [qBF.l2, lt_int hx2, lt_int hi, nn, ↓reduceIte, rd_nat, rdL, ht0, hm]
   refine Ev.bind (after_ev h hT hmi.1 hmi.2 ht) ?_
   rw [e]
   simp only [Bool.false_eq_true, ↓reduceIte]
   exact Ev.some _
theorem explore_go (h : NetOk ps ts) (hT : Thin ts) (hmany : many ≤ 100000) : ∀ (d i : Nat) (l : List (List Int)) (ed : List Edg) (b : Bool), 2 * (many - l.length) + (l.length - i) = d → i ≤ l.length → InX ts ps.length m0 many l ed → ed.length ≤ i * 1000 → (b = true → ∀ j, j < i → ∀ t, t < ts.length → Can (ts.getD t zT) (l.getD j []) → ∃ q : Nat, (⟨(j : Int), (t : Int), (q : Int)⟩ : Edg) ∈ ed) →
  ∃ r, Ev (fun k => qBF.l1 k (many : Int) (i : Int) nm ps ts l ed b) r ∧ GoodX ts ps.length m0 many r := by
 intro d
 induction d using Nat.strongRecOn with
 | _ d ih =>
  intro i l ed b hd hi hin hel hdone
  have hlen := hin.len
  by_cases c : i < l.length
  ·have hmem := getD_mem l [] c
   have hmi := hin.om _ hmem
   have start : ∀ {r : XRes}, Ev (fun k => qBF.l2 k (many : Int) (i : Int) (enabS true ps ts (l.getD i [])) 0 nm ps ts l ed b) r → Ev (fun k => qBF.l1 k (many : Int) (i : Int) nm ps ts l ed b) r := fun hs => by
    refine Ev.up ?_
    simp only [qBF.l1, lt_int c, nn, ↓reduceIte, rdL]
    exact Ev.bind (fires_ev h hT hmi.1 hmi.2) hs
   have hl : (enabS true ps ts (l.getD i [])).length ≤ 1000 := Nat.le_trans (enab_len _ _ _ _) h.trans
   have hK : i * 1000 ≤ 100000 * 1000 := Nat.mul_le_mul_right _ (by omega)
   rcases xround_ev (m0 := m0) h hT hmany (by omega) hmi (enabS true ps ts (l.getD i [])) 0 l ed b (List.drop_zero) hin (by omega) c rfl (fun t ht => (mem_enabS h hmi.1).1 ht) with ⟨r, h1, h2⟩ | ⟨l', ed', b', g1, g2, g3, g4, g5, g6, g7⟩
   ·exact ⟨r, start h1, Or.inl h2⟩
   ·have hlen' := g1.len
    obtain ⟨r, h1, h2⟩ := ih (2 * (many - l'.length) + (l'.length - (i + 1))) (by omega) (i + 1) l' ed' b' rfl (by omega) g1 (by omega) (fun hb j hj t ht hc => by
     obtain ⟨k1, k2⟩ := g6 hb
     rw [g3 j (by omega)] at hc
     by_cases e : j = i
     ·subst e; exact k2 t ((mem_enabS h hmi.1).2 ⟨t, rfl, ht, hc⟩)
     ·obtain ⟨q, hq⟩ := hdone k1 j (by omega) t ht hc
      exact ⟨q, g4 _ hq⟩)
    exact ⟨r, start (g7 r h1), h2⟩
  ·have : i = l.length := by omega
   subst this
   refine ⟨(l, ed, b, 0), ?_, Or.inr ⟨rfl, fun hb => ⟨hin, (by show ed.length ≤ 1000000000; omega), fun j hj t ht hc => hdone hb j hj t ht hc⟩⟩⟩
   refine Ev.one (fun k => ?_)
   simp only [qBF.l1]
   rw [if_neg (by omega)]
theorem explore_ev (h : NetOk ps ts) (hT : Thin ts) (hv : validS nm ps ts = true) (h1 : 1 ≤ many) (hmany : many ≤ 20000) : ∃ r, Ev (fun k => qBF.f k nm ps ts (many : Int)) r ∧ GoodX ts ps.length (ps.map (·.f1)) many r := by
 have hfo := first_om hv
 have hpl := h.places
 obtain ⟨r, h2, h3⟩ := explore_go (nm := nm) (m0 := ps.map (·.f1)) (many := many) h hT (by omega) _ 0 [ps.map (·.f1)] [] true rfl (Nat.zero_le _) ⟨List.mem_singleton.2 rfl, fun m hm => by rw [List.mem_singleton.1 hm]; exact hfo, by simp, by simpa using h1, fun T hTc m hm => by rw [List.mem_singleton.1 hm]; exact hTc.first, fun e he => by cases he⟩ (by simp) (fun _ j hj => absurd hj (Nat.not_lt_zero _))
 refine ⟨r, ?_, h3⟩
 unfold qBF.f
 refine Ev.bind (refcheck_ev nm hT) ?_
 simp only [validS_check.1 hv, ↓reduceIte, show ¬ ((many : Int) < 1) by omega, show ¬ ((many : Int) > 20000) by omega, decide_false]
 refine Ev.up ?_
 simp only [qBF.j0, Bool.false_eq_true, ↓reduceIte]
 refine Ev_st (L := fun k s j => qBF.l0 k (many : Int) s j nm ps ts) (n := ps.length) (fun j => (ps.take j).map (·.f1)) (fun j hj hs => ?_) ?_
 ·have e : (ps.take (j + 1)).map (·.f1) = (ps.take j).map (·.f1) ++ [(ps.getD j zP).f1] := by
   rw [take_nx ps zP hj, List.map_append]; rfl
  rw [e] at hs
  have hl : ((ps.take j).map (·.f1)).length < 17592186044416 := by rw [List.length_map, List.length_take]; omega
  refine Ev.up ?_
  simp only [qBF.l0, lt_int hj, nn, hl, ↓reduceIte, rdP, wrap_up hj (by omega : ps.length ≤ 9223372036854775807)]
  exact hs
 ·rw [List.take_length]
  refine Ev.up ?_
  simp only [qBF.l0, Int.lt_irrefl, ↓reduceIte]
  exact h2
theorem valid04_ev {n : Nat} {m : List Int} (hm : Om n m) (hn : n ≤ 1000000) (hf : Fin m) : Ev (fun k => r04_Valid.f k m (n : Int)) true := by
 have hl := hm.len
 unfold r04_Valid.f
 refine Ev_up (L := fun k i => r04_Valid.l0 k m (n : Int) (i : Int)) (n := m.length) (fun i hi hr => ?_) (Ev.one (fun k => by
  simp only [r04_Valid.l0]
  rw [if_neg (by omega), hl]; simp))
 refine Ev.up ?_
 have c := hm.cases (i := i) (by omega)
 have d := hf i hi
 simp only [r04_Valid.l0, lt_int hi, nn, ↓reduceIte, rd_nat, show ¬ (m.getD i 0 < 0) by omega, show ¬ (m.getD i 0 > 1048576) by omega, wrap_up hi (by omega : m.length ≤ 9223372036854775807)]
 exact hr
theorem has_ev (l : List Int) (x : Int) (hl : l.length ≤ 1000000) : Ev (fun k => r11_has.f k l x) (decide (x ∈ l)) := by
 unfold r11_has.f
 have := Ev_loop (L := fun k i => r11_has.l0 k l x (i : Int)) (n := l.length) 1 (fun i => if l.getD i 0 = x then some true else none) (e := false) (fun k i hi => by
  simp only [r11_has.l0, lt_int hi, nn, ↓reduceIte, rd_nat, wrap_up hi (by omega : l.length ≤ 9223372036854775807)]
  by_cases c : l.getD i 0 = x
  ·rw [if_pos c, if_pos c]; rfl
  ·rw [if_neg c, if_neg c]; rfl) (Ev.one (fun k => by simp only [r11_has.l0]; rw [if_neg (by omega)]))
 refine Eq.mp ?_ this
 congr 1
 rw [first_any]
 by_cases c : ∃ j, j < l.length ∧ l.getD j 0 = x
 ·rw [if_pos c, decide_eq_true]
  obtain ⟨j, hj, rfl⟩ := c
  exact getD_mem l 0 hj
 ·rw [if_neg c, decide_eq_false]
  intro h
  obtain ⟨j, hj, e⟩ := List.getElem_of_mem h
  exact c ⟨j, hj, by rw [List.getD_eq_getElem?_getD, List.getElem?_eq_getElem hj]; exact e⟩
theorem fire11_ev {nm : ByteArray} {ps : List Pla} {ts : List Tra} (h : NetOk ps ts) (hT : Thin ts) (hv : (checkS nm ps ts).1 = 0) {m : List Int} (hm : Om ps.length m) (hf : Fin m) (t : Int) :
  ∃ r, Ev (fun k => r11_Fire.f k nm ps ts m t) r ∧ (r.2 = 0 → ∃ t' : Nat, t' < ts.length ∧ Can (ts.getD t' zT) m ∧ Fits (movS (ts.getD t' zT) m) ∧ r.1 = movS (ts.getD t' zT) m) := by
 have hpl := h.places
 have htl := h.trans
 have base : ∀ {r : List Int × Int}, Ev (fun k => if t < 0 then r11_Fire.j0 k m t true nm ps ts else r11_Fire.j0 k m t (decide (t ≥ (ts.length : Int))) nm ps ts) r → Ev (fun k => r11_Fire.f k nm ps ts m t) r := fun hr => by
  unfold r11_Fire.f
  refine Ev.bind (refcheck_ev nm hT) ?_
  simp only [hv, ↓reduceIte]
  refine Ev.bind (valid04_ev hm (by omega) hf) ?_
  simp only [↓reduceIte]
  exact hr
 by_cases c : t < 0
 ·refine ⟨([], 1), base ?_, fun h => by cases h⟩
  simp only [c, ↓reduceIte]
  exact Ev.one (fun k => by simp only [r11_Fire.j0, ↓reduceIte])
 ·by_cases d : t ≥ (ts.length : Int)
  ·refine ⟨([], 1), base ?_, fun h => by cases h⟩
   simp only [c, d, decide_true, ↓reduceIte]
   exact Ev.one (fun k => by simp only [r11_Fire.j0, ↓reduceIte])
  ·obtain ⟨t', rfl⟩ : ∃ t' : Nat, t = (t' : Int) := ⟨t.toNat, by omega⟩
   have ht : t' < ts.length := by omega
   have hlen : (enabS true ps ts m).length ≤ 1000000 := by
    unfold enabS
    rw [if_pos (h.fits hm)]
    have := filter_len (fun t => canS (ts.getD t zT) m) ts.length
    omega
   have base2 : ∀ {r : List Int × Int}, Ev (fun k => if decide ((t' : Int) ∈ enabS true ps ts m) = true then ((r11_After.f k nm ps ts m (t' : Int)).bind fun x => if x.2 = true then some (x.1, 0) else some (([] : List Int), 3)) else some (([] : List Int), 13)) r → Ev (fun k => r11_Fire.f k nm ps ts m (t' : Int)) r := fun hr => by
    refine base ?_
    simp only [c, d, decide_false, ↓reduceIte]
    refine Ev.up ?_
    simp only [r11_Fire.j0, Bool.false_eq_true, ↓reduceIte]
    refine Ev.bind (fires_ev h hT hm hf) ?_
    refine Ev.bind (has_ev _ _ hlen) ?_
    exact hr
   by_cases e : (t' : Int) ∈ enabS true ps ts m
   ·obtain ⟨x, hx, hx2, hc⟩ := (mem_enabS h hm).1 e
    obtain rfl : x = t' := by omega
    rcases goS_cases (ts.getD x zT) m with ⟨g, hfit⟩ | ⟨g, hfit⟩
    ·refine ⟨(movS (ts.getD x zT) m, 0), base2 ?_, fun _ => ⟨x, ht, hc, hfit, rfl⟩⟩
     simp only [e, decide_true, ↓reduceIte]
     refine Ev.bind (after_ev h hT hm hf ht) ?_
     rw [g]; simp only [↓reduceIte]; exact Ev.some _
    ·refine ⟨([], 3), base2 ?_, fun h => by cases h⟩
     simp only [e, decide_true, ↓reduceIte]
     refine Ev.bind (after_ev h hT hm hf ht) ?_
     rw [g]; simp only [Bool.false_eq_true, ↓reduceIte]; exact Ev.some _
   ·refine ⟨([], 13), base2 ?_, fun h => by cases h⟩
    simp only [e, decide_false, Bool.false_eq_true, ↓reduceIte]
    exact Ev.some _
theorem Can.monoLe {t : Tra} {a b : List Int} (h : Can t a) (hle : Le a b) (hl : a.length = b.length) : Can t b := fun p hp => by
 have hp' : p < a.length := by omega
 have c := h p hp'
 have d := hle p hp'
 unfold le1 at d
 rcases d with d | ⟨d1, d2, d3⟩
 ·exact Or.inl d
 ·rcases c with c | c
  ·exact absurd c d1
  ·exact Or.inr (by omega)
theorem cvL_mem {l : List (List Int)} {n : Nat} (h : Alike n l) {m : List Int} : cvL l m = true ↔ Fin m ∧ ∃ x ∈ l, leqS m x = true := by
 rw [cvL_iff, conS_same h]
 unfold cvS
 constructor
 ·rintro ⟨i, hi, e⟩
  by_cases c : (finT m m.length).length = m.length
  ·rw [if_pos c] at e
   exact ⟨finT_fin.1 c, _, getD_mem l [] hi, e⟩
  ·rw [if_neg c] at e; cases e
 ·rintro ⟨hf, x, hx, e⟩
  obtain ⟨i, hi, ei⟩ := List.getElem_of_mem hx
  have e2 : l.getD i [] = x := by rw [List.getD_eq_getElem?_getD, List.getElem?_eq_getElem hi]; exact ei
  exact ⟨i, hi, by rw [e2, if_pos (finT_fin.2 hf)]; exact e⟩
section
variable {nm : ByteArray} {ps : List Pla} {ts : List Tra}
theorem run11_ev (h : NetOk ps ts) (hT : Thin ts) (hv : validS nm ps ts = true) {Q : List Int → Prop} (hQ : ∀ m, Om ps.length m → Fin m → Q m → ∀ t, t < ts.length → Can (ts.getD t zT) m → Q (movS (ts.getD t zT) m)) {seq : List Int} (hs : seq.length ≤ 1000000) {m : List Int} (hm : Om ps.length m) (hf : Fin m) (hq : Q m) :
  ∃ r, Ev (fun k => r11_Run.f k nm ps ts m seq) r ∧ (r.2.1 = 0 → Om ps.length r.1 ∧ Fin r.1 ∧ Q r.1) := by
 have hpl := h.places
 have hcv := validS_check.1 hv
 have go : ∀ (d i : Nat) (m : List Int), i + d = seq.length → Om ps.length m → Fin m → Q m → ∃ r, Ev (fun k => r11_Run.l0 k seq m (i : Int) nm ps ts) r ∧ (r.2.1 = 0 → Om ps.length r.1 ∧ Fin r.1 ∧ Q r.1) := by
  intro d
  induction d with
  | zero =>
   intro i m hi hm hf hq
   refine ⟨(m, 0, 0), Ev.up ?_, fun _ => ⟨hm, hf, hq⟩⟩
   simp only [r11_Run.l0, show ¬ ((i : Int) < (seq.length : Int)) by omega, ↓reduceIte]
   exact Ev.some _
  | succ d ih =>
   intro i m hi hm hf hq
   have his : i < seq.length := by omega
   obtain ⟨r, hr, hr2⟩ := fire11_ev h hT hcv hm hf (seq.getD i 0)
   by_cases z : r.2 = 0
   ·obtain ⟨t, ht', hcan, hfit, e⟩ := hr2 z
    have ar := h.arcs t ht'
    obtain ⟨r2, k1, k2⟩ := ih (i + 1) _ (by omega) (movS_om hm ar.1 ar.2 hcan hfit) (movS_fin ar.2 hf hcan) (hQ m hm hf hq t ht' hcan)
    refine ⟨r2, Ev.up ?_, k2⟩
    simp only [r11_Run.l0, lt_int his, nn, ↓reduceIte, rd_nat, wrap_up his (by omega : seq.length ≤ 9223372036854775807)]
    refine Ev.bind hr ?_
    simp only [z, ↓reduceIte]
    rw [e]
    exact k1
   ·refine ⟨([], r.2, (i : Int)), Ev.up ?_, fun x => absurd x z⟩
    simp only [r11_Run.l0, lt_int his, nn, ↓reduceIte, rd_nat]
    refine Ev.bind hr ?_
    simp only [z, ↓reduceIte]
    exact Ev.some _
 obtain ⟨r, k1, k2⟩ := go seq.length 0 m (by omega) hm hf hq
 refine ⟨r, ?_, k2⟩
 unfold r11_Run.f
 refine Ev.bind (refcheck_ev nm hT) ?_
 simp only [hcv, ↓reduceIte]
 refine Ev.bind (valid04_ev hm (by omega) hf) ?_
 simp only [↓reduceIte]
 exact Ev.bind (refcopy_ev m (hm.le hpl)) k1
end
def v04 (m : List Int) (n : Nat) : Bool := first (fun i => if m.getD i 0 < 0 ∨ m.getD i 0 > 1048576 then some false else none) (decide (m.length = n)) m.length
theorem v04_iff {m : List Int} {n : Nat} : v04 m n = true ↔ Om n m ∧ Fin m := by
 unfold v04
 rcases qCP (fun i => if m.getD i 0 < 0 ∨ m.getD i 0 > 1048576 then some false else none) (decide (m.length = n)) m.length with ⟨h1, h2⟩ | ⟨j, h1, h2, _⟩
 ·rw [h1, decide_eq_true_iff]
  have key : ∀ i, i < m.length → 0 ≤ m.getD i 0 ∧ m.getD i 0 ≤ 1048576 := fun i hi => by
   have := h2 i hi
   by_cases c : m.getD i 0 < 0 ∨ m.getD i 0 > 1048576
   ·rw [if_pos c] at this; cases this
   ·omega
  exact ⟨fun e => ⟨⟨e, fun i hi => okN_iff.2 (Or.inr (key i (by omega)))⟩, fun i hi => by have := key i hi; omega⟩, fun e => e.1.len⟩
 ·have hb : m.getD j 0 < 0 ∨ m.getD j 0 > 1048576 := by
   by_cases c : m.getD j 0 < 0 ∨ m.getD j 0 > 1048576
   ·exact c
   ·rw [if_neg c] at h2; cases h2
  rw [if_pos hb] at h2
  rw [← Option.some.inj h2]
  refine ⟨fun e => (by cases e), fun ⟨e, f⟩ => ?_⟩
  have a := e.cases (i := j) (by rw [← e.len]; exact h1)
  have b := f j h1
  omega
theorem v04_ev (m : List Int) (n : Nat) (hm : m.length ≤ 17592186043904) : Ev (fun k => r04_Valid.f k m (n : Int)) (v04 m n) := by
 unfold r04_Valid.f v04
 refine Ev_first (L := fun k i => r04_Valid.l0 k m (n : Int) (i : Int)) (n := m.length) (fun i => if m.getD i 0 < 0 ∨ m.getD i 0 > 1048576 then some false else none) (fun i hi hp r hs => ?_) (fun i r hi hp => ?_) ?_
 ·have hb : ¬ (m.getD i 0 < 0 ∨ m.getD i 0 > 1048576) := fun c => by rw [if_pos c] at hp; cases hp
  refine Ev.up ?_
  simp only [r04_Valid.l0, lt_int hi, nn, ↓reduceIte, rd_nat, show ¬ (m.getD i 0 < 0) by omega, show ¬ (m.getD i 0 > 1048576) by omega, wrap_up hi (by omega : m.length ≤ 9223372036854775807)]
  exact hs
 ·have hb : m.getD i 0 < 0 ∨ m.getD i 0 > 1048576 := by
   by_cases c : m.getD i 0 < 0 ∨ m.getD i 0 > 1048576
   ·exact c
   ·rw [if_neg c] at hp; cases hp
  rw [if_pos hb] at hp
  obtain rfl := Option.some.inj hp
  refine Ev.up ?_
  by_cases c : m.getD i 0 < 0
  ·simp only [r04_Valid.l0, lt_int hi, nn, ↓reduceIte, rd_nat, c]
   exact Ev.some _
  ·simp only [r04_Valid.l0, lt_int hi, nn, ↓reduceIte, rd_nat, c, show m.getD i 0 > 1048576 by omega]
   exact Ev.some _
 ·refine Ev.up ?_
  simp only [r04_Valid.l0, Int.lt_irrefl, ↓reduceIte]
  by_cases c : m.length = n
  ·rw [decide_eq_true c, show ((m.length : Int) == (n : Int)) = true from beq_iff_eq.mpr (by omega)]; exact Ev.some _
  ·rw [decide_eq_false c, show ((m.length : Int) == (n : Int)) = false from beq_eq_false_iff_ne.mpr (by omega)]; exact Ev.some _
def lq04 (a b : List Int) : Bool := if a.length = b.length then first (fun i => if a.getD i 0 > b.getD i 0 then some false else none) true a.length else false
theorem lq04_ev (a b : List Int) (ha : a.length ≤ 17592186043904) : Ev (fun k => r04_Leq.f k a b) (lq04 a b) := by
 unfold r04_Leq.f lq04
 by_cases h : a.length = b.length
 ·simp only [h, ↓reduceIte]
  rw [← h]
  refine Ev_first (L := fun k i => r04_Leq.l0 k a b (i : Int)) (n := a.length) (fun i => if a.getD i 0 > b.getD i 0 then some false else none) (fun i hi hp r hs => ?_) (fun i r hi hp => ?_) (Ev.one (fun k => by simp only [r04_Leq.l0, Int.lt_irrefl, ↓reduceIte]))
  ·have hb : ¬ (a.getD i 0 > b.getD i 0) := fun c => by rw [if_pos c] at hp; cases hp
   refine Ev.up ?_
   simp only [r04_Leq.l0, lt_int hi, nn, ↓reduceIte, rd_nat, lt_int (show i < b.length by omega), hb, wrap_up hi (by omega : a.length ≤ 9223372036854775807)]
   exact hs
  ·have hb : a.getD i 0 > b.getD i 0 := by
    by_cases c : a.getD i 0 > b.getD i 0
    ·exact c
    ·rw [if_neg c] at hp; cases hp
   rw [if_pos hb] at hp
   obtain rfl := Option.some.inj hp
   refine Ev.up ?_
   simp only [r04_Leq.l0, lt_int hi, nn, ↓reduceIte, rd_nat, lt_int (show i < b.length by omega), hb]
   exact Ev.some _
 ·simp only [h, show ¬ ((a.length : Int) = (b.length : Int)) by omega, ↓reduceIte]
  exact Ev.some _
theorem lq04_iff {n : Nat} {a b : List Int} (ha : Om n a) (fa : Fin a) (hb : Om n b) (fb : Fin b) : lq04 a b = true ↔ Le a b := by
 have la := ha.len
 have lb := hb.len
 unfold lq04
 rw [if_pos (by omega)]
 rcases qCP (fun i => if a.getD i 0 > b.getD i 0 then some false else none) true a.length with ⟨h1, h2⟩ | ⟨j, h1, h2, _⟩
 ·rw [h1]
  refine ⟨fun _ i hi => ?_, fun _ => rfl⟩
  have := h2 i hi
  by_cases c : a.getD i 0 > b.getD i 0
  ·rw [if_pos c] at this; cases this
  ·exact Or.inr ⟨fa i hi, fb i (by omega), by omega⟩
 ·have c : a.getD j 0 > b.getD j 0 := by
   by_cases c : a.getD j 0 > b.getD j 0
   ·exact c
   ·rw [if_neg c] at h2; cases h2
  rw [if_pos c] at h2
  rw [← Option.some.inj h2]
  refine ⟨fun e => (by cases e), fun e => ?_⟩
  have := e j h1
  have fbj := fb j (by omega)
  unfold le1 at this
  omega
def covP (n : Nat) (m s : List Int) : Prop := v04 m n = true ∧ lq04 m s = true
theorem setT_get {ok : List Bool} {E : List Int} (he : ∀ t ∈ E, ∃ n : Nat, t = (n : Int) ∧ n < ok.length) {t : Nat} (ht : t < ok.length) : ∀ j, j ≤ E.length → ((setT ok E j).getD t false = true ↔ ok.getD t false = true ∨ ∃ q, q < j ∧ E.getD q 0 = (t : Int))
 | 0, _ => ⟨fun h => Or.inl h, fun h => h.elim id (fun ⟨q, hq, _⟩ => absurd hq (Nat.not_lt_zero _))⟩
 | j + 1, hj => by
  have ih := setT_get he ht j (by omega)
  obtain ⟨n, en, hn⟩ := he _ (getD_mem E 0 (show j < E.length by omega))
  have hlen := setT_len ok E j
  have e : setT ok E (j + 1) = (setT ok E j).set n true := by
   show (setT ok E j).set (E.getD j 0).toNat true = _
   rw [en, Int.toNat_natCast]
  rw [e, List.getD_eq_getElem?_getD]
  by_cases c : n = t
  ·subst c
   rw [List.getElem?_set_self (by omega)]
   exact ⟨fun _ => Or.inr ⟨j, by omega, en⟩, fun _ => rfl⟩
  ·rw [List.getElem?_set_ne c, ← List.getD_eq_getElem?_getD, ih]
   constructor
   ·rintro (h | ⟨q, hq, eq⟩)
    ·exact Or.inl h
    ·exact Or.inr ⟨q, by omega, eq⟩
   ·rintro (h | ⟨q, hq, eq⟩)
    ·exact Or.inl h
    ·by_cases d : q = j
     ·subst d; omega
     ·exact Or.inr ⟨q, by omega, eq⟩
theorem rep_get (n t : Nat) : (List.replicate n false).getD t false = false := by
 rw [List.getD_eq_getElem?_getD, List.getElem?_replicate]
 split <;> rfl
theorem canT_get {F : List Int → List Int} {l : List (List Int)} {n : Nat} (hF : ∀ m, ∀ t ∈ F m, ∃ k : Nat, t = (k : Int) ∧ k < n) {t : Nat} (ht : t < n) : ∀ i, (canT F l n i).getD t false = true ↔ ∃ j, j < i ∧ (t : Int) ∈ F (l.getD j [])
 | 0 => ⟨fun h => (by unfold canT at h; rw [rep_get] at h; cases h), fun ⟨j, hj, _⟩ => absurd hj (Nat.not_lt_zero _)⟩
 | i + 1 => by
  have ih := canT_get hF ht (l := l) i
  have hl := canT_len F l n i
  show (setT (canT F l n i) (F (l.getD i [])) (F (l.getD i [])).length).getD t false = true ↔ _
  rw [setT_get (fun s hs => by rw [hl]; exact hF _ s hs) (by omega) _ (Nat.le_refl _), ih]
  constructor
  ·rintro (⟨j, hj, h⟩ | ⟨q, hq, e⟩)
   ·exact ⟨j, by omega, h⟩
   ·exact ⟨i, by omega, by rw [← e]; exact getD_mem _ 0 hq⟩
  ·rintro ⟨j, hj, h⟩
   by_cases d : j = i
   ·subst d
    obtain ⟨q, hq, eq⟩ := List.getElem_of_mem h
    exact Or.inr ⟨q, hq, by rw [List.getD_eq_getElem?_getD, List.getElem?_eq_getElem hq]; exact eq⟩
   ·exact Or.inl ⟨j, by omega, h⟩
theorem onT_congr {a b : List Bool} : ∀ n, (∀ t, t < n → (a.getD t false = true ↔ b.getD t false = true)) → onT a n = onT b n
 | 0, _ => rfl
 | n + 1, h => by
  have ih := onT_congr n (fun t ht => h t (by omega))
  have hn := h n (by omega)
  rw [onT_succ, onT_succ, ih]
  by_cases c : a.getD n false = true
  ·rw [if_pos c, if_pos (hn.1 c)]
  ·rw [if_neg c, if_neg (fun x => c (hn.2 x))]
def frT (ed : List Edg) (n : Nat) : Nat → List Bool
 | 0 => List.replicate n false
 | i + 1 => (frT ed n i).set (ed.getD i zE).f1.toNat true
theorem frT_len (ed : List Edg) (n : Nat) : ∀ i, (frT ed n i).length = n
 | 0 => List.length_replicate
 | i + 1 => by
  show ((frT ed n i).set _ true).length = n
  rw [List.length_set, frT_len ed n i]
theorem frT_get {ed : List Edg} {n : Nat} (he : ∀ e ∈ ed, ∃ k : Nat, e.f1 = (k : Int) ∧ k < n) {t : Nat} (ht : t < n) : ∀ i, i ≤ ed.length → ((frT ed n i).getD t false = true ↔ ∃ q, q < i ∧ (ed.getD q zE).f1 = (t : Int))
 | 0, _ => ⟨fun h => (by unfold frT at h; rw [rep_get] at h; cases h), fun ⟨j, hj, _⟩ => absurd hj (Nat.not_lt_zero _)⟩
 | i + 1, hi => by
  have ih := frT_get he ht i (by omega)
  obtain ⟨k, ek, hk⟩ := he _ (getD_mem ed zE (show i < ed.length by omega))
  have hlen := frT_len ed n i
  have e : frT ed n (i + 1) = (frT ed n i).set k true := by
   show (frT ed n i).set (ed.getD i zE).f1.toNat true = _
   rw [ek, Int.toNat_natCast]
  rw [e, List.getD_eq_getElem?_getD]
  by_cases c : k = t
  ·subst c
   rw [List.getElem?_set_self (by omega)]
   exact ⟨fun _ => ⟨i, by omega, ek⟩, fun _ => rfl⟩
  ·rw [List.getElem?_set_ne c, ← List.getD_eq_getElem?_getD, ih]
   constructor
   ·rintro ⟨q, hq, eq⟩
    exact ⟨q, by omega, eq⟩
   ·rintro ⟨q, hq, eq⟩
    by_cases d : q = i
    ·subst d; omega
    ·exact ⟨q, by omega, eq⟩
section
variable {nm : ByteArray} {ps : List Pla} {ts : List Tra} {m0 : List Int} {tr : List Nd} {l : List (List Int)} {ed : List Edg} {many : Nat}
theorem both_same (h : NetOk ps ts) (ho : TreeOk ts ps.length m0 tr) (hk : ∀ i, i < tr.length → Kids ts tr i) (h0 : Fin m0) (hx : FullX ts ps.length m0 many l ed) : (∀ i, i < tr.length → Fin (tr.getD i zN).f2) ∧ ∀ m, m ∈ marksS tr ↔ m ∈ l := by
 have hc := hx.closed
 have hf : ∀ i, i < tr.length → Fin (tr.getD i zN).f2 := fun i hi => Classical.byContradiction fun c => ho.open h.arcs h0 hi c hc
 refine ⟨hf, fun m => ⟨fun hm => ?_, fun hm => ?_⟩⟩
 ·obtain ⟨i, hi, rfl⟩ := mem_markings.1 hm
  exact ho.inClosed hc (Nat.le_refl _) hf i hi
 ·exact hx.inx.sub _ (ho.closed hk hf) m hm
theorem set_root (ho : TreeOk ts ps.length m0 tr) : ∃ y ∈ maxS (marksS tr), Le m0 y := above (marks_alike ho) (mem_markings.2 ⟨0, ho.ne, by rw [ho.root]⟩)
theorem set_covers (h : NetOk ps ts) (ho : TreeOk ts ps.length m0 tr) (hk : ∀ i, i < tr.length → Kids ts tr i) {m : List Int} (hm : Om ps.length m) (hf : Fin m) (hc : Cov tr m) : cvL (maxS (marksS tr)) m = true := by
 have ha := marks_alike ho
 obtain ⟨i, hi, hle⟩ := hc
 have hi' : (tr.getD i zN).f2 ∈ marksS tr := mem_markings.2 ⟨i, hi, rfl⟩
 obtain ⟨y, hy, hle2⟩ := above ha hi'
 have oi := ha _ hi'
 have oy := maxS_alike ha y hy
 have := hm.len
 have := oi.len
 refine (cvL_mem (maxS_alike ha)).2 ⟨hf, y, hy, leqS_iff.2 ⟨by rw [oy.len]; exact hm, by rw [oy.len]; exact oy, hle.trans hle2 (by omega)⟩⟩
theorem covers_same (h : NetOk ps ts) (ho : TreeOk ts ps.length m0 tr) (hk : ∀ i, i < tr.length → Kids ts tr i) (h0 : Fin m0) (hx : FullX ts ps.length m0 many l ed) (m : List Int) : cvL (maxS (marksS tr)) m = true ↔ ∃ j, j < l.length ∧ covP ps.length m (l.getD j []) := by
 have ha := marks_alike ho
 obtain ⟨hf, hs⟩ := both_same h ho hk h0 hx
 rw [cvL_mem (maxS_alike ha)]
 constructor
 ·rintro ⟨fm, x, hxm, e⟩
  obtain ⟨e1, e2, e3⟩ := leqS_iff.1 e
  have xl := (hs x).1 (maxS_in ha hxm)
  obtain ⟨ox, fx⟩ := hx.inx.om x xl
  rw [ox.len] at e1
  obtain ⟨j, hj, ej⟩ := List.getElem_of_mem xl
  have e4 : l.getD j [] = x := by rw [List.getD_eq_getElem?_getD, List.getElem?_eq_getElem hj]; exact ej
  exact ⟨j, hj, v04_iff.2 ⟨e1, fm⟩, by rw [e4]; exact (lq04_iff e1 fm ox fx).2 e3⟩
 ·rintro ⟨j, hj, e1, e2⟩
  obtain ⟨om, fm⟩ := v04_iff.1 e1
  have sl := getD_mem l [] hj
  obtain ⟨os, fs⟩ := hx.inx.om _ sl
  have hle := (lq04_iff om fm os fs).1 e2
  obtain ⟨y, hy, hle2⟩ := above ha ((hs _).2 sl)
  have oy := maxS_alike ha y hy
  have := om.len
  have := os.len
  exact ⟨fm, y, hy, leqS_iff.2 ⟨by rw [oy.len]; exact om, by rw [oy.len]; exact oy, hle.trans hle2 (by omega)⟩⟩
theorem edge_tr (hx : FullX ts ps.length m0 many l ed) : ∀ e ∈ ed, ∃ k : Nat, e.f1 = (k : Int) ∧ k < ts.length := fun e he => by
 obtain ⟨i, t, j, h1, _, _, h4, _⟩ := hx.inx.edge e he
 exact ⟨t, by rw [h1], h4⟩
theorem quasi_same (h : NetOk ps ts) (hv : validS nm ps ts = true) (ho : TreeOk ts ps.length m0 tr) (hk : ∀ i, i < tr.length → Kids ts tr i) (h0 : Fin m0) (hx : FullX ts ps.length m0 many l ed) : quasS nm ps ts (maxS (marksS tr)) = onT (frT ed ts.length ed.length) ts.length := by
 have ha := marks_alike ho
 have hma := maxS_alike ha
 obtain ⟨hf, hs⟩ := both_same h ho hk h0 hx
 unfold quasS
 rw [hv, conS_same hma]
 refine onT_congr _ fun t ht => ?_
 rw [canT_get (fun m t hm => enab_lt hm) ht, frT_get (edge_tr hx) ht _ (Nat.le_refl _)]
 constructor
 ·rintro ⟨j, hj, hm⟩
  have hjm := getD_mem (maxS (marksS tr)) [] hj
  obtain ⟨t', e, _, hc⟩ := (mem_enabS h (hma _ hjm)).1 hm
  obtain rfl : t = t' := by omega
  have xl := (hs _).1 (maxS_in ha hjm)
  obtain ⟨i, hi, ei⟩ := List.getElem_of_mem xl
  have e4 : l.getD i [] = (maxS (marksS tr)).getD j [] := by rw [List.getD_eq_getElem?_getD, List.getElem?_eq_getElem hi]; exact ei
  obtain ⟨q, hq⟩ := hx.all i hi t ht (by rw [e4]; exact hc)
  obtain ⟨z, hz, ez⟩ := List.getElem_of_mem hq
  exact ⟨z, hz, by rw [List.getD_eq_getElem?_getD, List.getElem?_eq_getElem hz]; show (ed[z]).f1 = _; rw [ez]⟩
 ·rintro ⟨q, hq, e⟩
  obtain ⟨i, t', j, h1, h2, h3, h4, h5, _⟩ := hx.inx.edge _ (getD_mem ed zE hq)
  rw [h1] at e
  obtain rfl : t' = t := by
   have e' : (t' : Int) = (t : Int) := e
   omega
  have sl := getD_mem l [] h2
  obtain ⟨y, hy, hle⟩ := above ha ((hs _).2 sl)
  obtain ⟨z, hz, ez⟩ := List.getElem_of_mem hy
  have e4 : (maxS (marksS tr)).getD z [] = y := by rw [List.getD_eq_getElem?_getD, List.getElem?_eq_getElem hz]; exact ez
  have oy := hma y hy
  have os := (hx.inx.om _ sl).1
  exact ⟨z, hz, by rw [e4]; exact (mem_enabS h oy).2 ⟨t', rfl, ht, h5.monoLe hle (by rw [os.len, oy.len])⟩⟩
theorem bounded_true (h : NetOk ps ts) (ho : TreeOk ts ps.length m0 tr) (hk : ∀ i, i < tr.length → Kids ts tr i) (h0 : Fin m0) (hx : FullX ts ps.length m0 many l ed) (hfw : FewS (maxS (marksS tr))) : Ev (fun k => qAW.f k (maxS (marksS tr))) true := by
 have ha := marks_alike ho
 have hma := maxS_alike ha
 obtain ⟨hf, hs⟩ := both_same h ho hk h0 hx
 have := mbounded_ev hfw
 rw [conS_same hma] at this
 obtain ⟨y, hy, _⟩ := set_root ho
 have hpos : 0 < (maxS (marksS tr)).length := List.length_pos_of_mem hy
 rw [@if_neg _ (Classical.propDecidable _) (fun ⟨i, hi, e⟩ => e (finT_fin.2 (by
  have hm := maxS_in ha (getD_mem (maxS (marksS tr)) [] hi)
  exact (hx.inx.om _ ((hs _).1 hm)).2))) _ _ _, decide_eq_true (by omega)] at this
 exact this
end
def smT (t : Tra) : Option Bool := if (t.f0.size : Int) > 20 ∨ (t.f1.length : Int) > 26 ∨ (t.f2.length : Int) > 26 ∨ (t.f3.length : Int) > 26 then some false else none
def smP (p : Pla) : Option Bool := if (p.f0.size : Int) > 20 then some false else none
def smallS (nm : ByteArray) (ps : List Pla) (ts : List Tra) : Bool :=
 if (ps.length : Int) > 26 ∨ (ts.length : Int) > 26 ∨ (nm.size : Int) > 20 then false else first (fun i => smP (ps.getD i zP)) (first (fun i => smT (ts.getD i zT)) true ts.length) ps.length
structure SmallN (nm : ByteArray) (ps : List Pla) (ts : List Tra) : Prop where
 p : ps.length ≤ 26
 t : ts.length ≤ 26
 n : nm.size ≤ 20
 pn : ∀ i, i < ps.length → (ps.getD i zP).f0.size ≤ 20
 tn : ∀ i, i < ts.length → (ts.getD i zT).f0.size ≤ 20 ∧ (ts.getD i zT).f1.length ≤ 26 ∧ (ts.getD i zT).f2.length ≤ 26 ∧ (ts.getD i zT).f3.length ≤ 26
theorem smallS_true {nm : ByteArray} {ps : List Pla} {ts : List Tra} (h : smallS nm ps ts = true) : SmallN nm ps ts := by
 unfold smallS at h
 by_cases c : (ps.length : Int) > 26 ∨ (ts.length : Int) > 26 ∨ (nm.size : Int) > 20
 ·rw [if_pos c] at h; cases h
 ·rw [if_neg c] at h
  rcases qCP (fun i => smP (ps.getD i zP)) (first (fun i => smT (ts.getD i zT)) true ts.length) ps.length with ⟨h1, h2⟩ | ⟨j, h1, h2, _⟩
  ·rw [h1] at h
   rcases qCP (fun i => smT (ts.getD i zT)) true ts.length with ⟨k1, k2⟩ | ⟨j, k1, k2, _⟩
   ·refine ⟨by omega, by omega, by omega, fun i hi => ?_, fun i hi => ?_⟩
    ·have := h2 i hi
     unfold smP at this
     by_cases d : ((ps.getD i zP).f0.size : Int) > 20
     ·rw [if_pos d] at this; cases this
     ·omega
    ·have := k2 i hi
     unfold smT at this
     by_cases d : ((ts.getD i zT).f0.size : Int) > 20 ∨ ((ts.getD i zT).f1.length : Int) > 26 ∨ ((ts.getD i zT).f2.length : Int) > 26 ∨ ((ts.getD i zT).f3.length : Int) > 26
     ·rw [if_pos d] at this; cases this
     ·omega
   ·rw [h] at k2
    unfold smT at k2
    by_cases d : ((ts.getD j zT).f0.size : Int) > 20 ∨ ((ts.getD j zT).f1.length : Int) > 26 ∨ ((ts.getD j zT).f2.length : Int) > 26 ∨ ((ts.getD j zT).f3.length : Int) > 26
    ·rw [if_pos d] at k2; cases k2
    ·rw [if_neg d] at k2; cases k2
  ·rw [h] at h2
   unfold smP at h2
   by_cases d : ((ps.getD j zP).f0.size : Int) > 20
   ·rw [if_pos d] at h2; cases h2
   ·rw [if_neg d] at h2; cases h2
theorem SmallN.thin {nm : ByteArray} {ps : List Pla} {ts : List Tra} (h : SmallN nm ps ts) : Thin ts := fun t ht => by
 obtain ⟨i, hi, rfl⟩ := List.getElem_of_mem ht
 have := h.tn i hi
 rw [List.getD_eq_getElem?_getD, List.getElem?_eq_getElem hi] at this
 obtain ⟨a, b, c, d⟩ := this
 exact ⟨Nat.le_trans a (by decide), Nat.le_trans b (by decide), Nat.le_trans c (by decide), Nat.le_trans d (by decide)⟩
def smallR (b : Bool) (nm : ByteArray) (ps : List Pla) (ts : List Tra) : ByteArray × List Pla × List Tra × Bool := if b = true then (nm, ps, ts, true) else (⟨#[]⟩, [], [], false)
theorem first_map {α β : Type} (f : α → β) (p : Nat → Option α) (e : α) (n : Nat) : first (fun i => (p i).map f) (f e) n = f (first p e n) := by
 rcases qCP p e n with ⟨h1, h2⟩ | ⟨j, h1, h2, h3⟩
 · rw [h1]; exact first_all (fun j hj => by rw [h2 j hj]; rfl)
 · exact first_at j h1 (by rw [h2]; rfl) (fun m hm => by rw [h3 m hm]; rfl)
theorem small_ev (nm : ByteArray) (ps : List Pla) (ts : List Tra) : Ev (fun k => r09_Small.f k nm ps ts) (smallR (smallS nm ps ts) nm ps ts) := by
 have e0 : ∀ k, r09_Small.f k nm ps ts = r09_Small.j0 k (decide ((ps.length : Int) > 26 ∨ (ts.length : Int) > 26 ∨ (nm.size : Int) > 20)) nm ps ts := fun k => by
  unfold r09_Small.f
  rw [ite_or ((ts.length : Int) > 26) _ (fun b => r09_Small.j0 k b nm ps ts)]
  exact ite_or _ _ (fun b => r09_Small.j0 k b nm ps ts)
 refine Ev.congr e0 ?_
 unfold smallS
 by_cases c : (ps.length : Int) > 26 ∨ (ts.length : Int) > 26 ∨ (nm.size : Int) > 20
 ·rw [decide_eq_true c, if_pos c]
  exact Ev.one (fun k => by simp only [r09_Small.j0, ↓reduceIte]; rfl)
 ·rw [decide_eq_false c, if_neg c]
  refine Ev.step (f := fun k => r09_Small.l0 k ((0 : Nat) : Int) nm ps ts) (fun k => by simp only [r09_Small.j0]; rw [if_neg Bool.false_ne_true]; rfl) ?_
  have ht := Ev_loop (L := fun k i => r09_Small.l1 k (i : Int) nm ps ts) (n := ts.length) 1 (fun i => (smT (ts.getD i zT)).map (fun b => smallR b nm ps ts)) (e := smallR true nm ps ts)
   (fun k i hi => by
    simp only [r09_Small.l1]
    rw [if_pos (by omega), if_pos (by omega), rdT, wrap_up hi (by omega), ite_or2, ite_or2, ite_or2]
    unfold smT
    by_cases d : ((ts.getD i zT).f0.size : Int) > 20 ∨ ((ts.getD i zT).f1.length : Int) > 26 ∨ ((ts.getD i zT).f2.length : Int) > 26 ∨ ((ts.getD i zT).f3.length : Int) > 26
    ·rw [if_pos d, if_pos (by omega)]; rfl
    ·rw [if_neg d, if_neg (by omega)]; rfl)
   (Ev.one (fun k => by simp only [r09_Small.l1]; rw [if_neg (by omega)]; rfl))
  have hp := Ev_loop (L := fun k i => r09_Small.l0 k (i : Int) nm ps ts) (n := ps.length) 1 (fun i => (smP (ps.getD i zP)).map (fun b => smallR b nm ps ts)) (e := first (fun i => (smT (ts.getD i zT)).map (fun b => smallR b nm ps ts)) (smallR true nm ps ts) ts.length)
   (fun k i hi => by
    simp only [r09_Small.l0]
    rw [if_pos (by omega), if_pos (by omega), rdP, wrap_up hi (by omega)]
    unfold smP
    by_cases d : ((ps.getD i zP).f0.size : Int) > 20
    ·rw [if_pos d, if_pos d]; rfl
    ·rw [if_neg d, if_neg d]; rfl)
   (Ev.step (f := fun k => r09_Small.l1 k ((0 : Nat) : Int) nm ps ts) (fun k => by simp only [r09_Small.l0]; rw [if_neg (by omega)]; rfl) ht)
  rw [first_map (fun b => smallR b nm ps ts), first_map (fun b => smallR b nm ps ts)] at hp
  exact hp
theorem light1_ev (l : List Ac) : ∃ b, Ev (fun k => r09_light.f k l) b := by
 by_cases c : (l.length : Int) > 6
 ·refine ⟨false, ?_⟩
  unfold r09_light.f
  simp only [c, ↓reduceIte]
  exact Ev.some _
 ·refine ⟨first (fun i => if (l.getD i zA).f1 > 3 then some false else none) true l.length, ?_⟩
  unfold r09_light.f
  simp only [c, ↓reduceIte]
  refine Ev_loop (L := fun k i => r09_light.l0 k l (i : Int)) 1 _ (fun k i hi => ?_) (Ev.one (fun k => by simp only [r09_light.l0]; rw [if_neg (by omega)]))
  simp only [r09_light.l0, lt_int hi, nn, ↓reduceIte, rdA, wrap_up hi (by omega : l.length ≤ 9223372036854775807)]
  by_cases d : (l.getD i zA).f1 > 3
  ·rw [if_pos d, if_pos d]; rfl
  ·rw [if_neg d, if_neg d]; rfl
theorem Ev_some {L : Nat → Nat → Option Bool} {n : Nat} (step : ∀ i, i < n → Ev (fun k => L k i) false ∨ ∀ r, Ev (fun k => L k (i + 1)) r → Ev (fun k => L k i) r) (fin : ∃ b, Ev (fun k => L k n) b) : ∃ b, Ev (fun k => L k 0) b := by
 have go : ∀ d i, i + d = n → ∃ b, Ev (fun k => L k i) b := by
  intro d
  induction d with
  | zero =>
   intro i hi
   obtain rfl : i = n := by omega
   exact fin
  | succ d ih =>
   intro i hi
   rcases step i (by omega) with h | h
   ·exact ⟨_, h⟩
   ·obtain ⟨b, hb⟩ := ih (i + 1) (by omega)
    exact ⟨b, h b hb⟩
 exact go n 0 (by omega)
theorem light_ev (nm : ByteArray) (ps : List Pla) (ts : List Tra) : ∃ b, Ev (fun k => r09_Light.f k nm ps ts) b ∧ (b = true → SmallN nm ps ts) := by
 unfold r09_Light.f
 cases hs : smallS nm ps ts with
 | false =>
  refine ⟨false, ?_, fun h => by cases h⟩
  refine Ev.bind (small_ev nm ps ts) ?_
  rw [hs]
  simp only [smallR, Bool.false_eq_true, ↓reduceIte]
  exact Ev.one (fun k => by simp only [r09_Light.j0, ↓reduceIte])
 | true =>
  have hS := smallS_true hs
  have hp := hS.p
  have ht := hS.t
  have : ∃ b, Ev (fun k => r09_Light.l0 k 0 nm ps ts) b := by
   refine Ev_some (L := fun k i => r09_Light.l0 k (i : Int) nm ps ts) (n := ps.length) (fun i hi => ?_) ?_
   ·by_cases d : (ps.getD i zP).f1 > 3
    ·refine Or.inl (Ev.up ?_)
     simp only [r09_Light.l0, lt_int hi, nn, ↓reduceIte, rdP, d]
     exact Ev.some _
    ·refine Or.inr (fun r hr => Ev.up ?_)
     simp only [r09_Light.l0, lt_int hi, nn, ↓reduceIte, rdP, d, wrap_up hi (by omega : ps.length ≤ 9223372036854775807)]
     exact hr
   ·have : ∃ b, Ev (fun k => r09_Light.l1 k 0 nm ps ts) b := by
     refine Ev_some (L := fun k i => r09_Light.l1 k (i : Int) nm ps ts) (n := ts.length) (fun i hi => ?_) ⟨true, Ev.one (fun k => by simp only [r09_Light.l1]; rw [if_neg (by omega)])⟩
     obtain ⟨b1, e1⟩ := light1_ev (ts.getD i zT).f1
     obtain ⟨b2, e2⟩ := light1_ev (ts.getD i zT).f2
     obtain ⟨b3, e3⟩ := light1_ev (ts.getD i zT).f3
     by_cases d : b1 = true ∧ b2 = true ∧ b3 = true
     ·obtain ⟨rfl, rfl, rfl⟩ := d
      refine Or.inr (fun r hr => Ev.up ?_)
      simp only [r09_Light.l1, lt_int hi, nn, ↓reduceIte, rdT, wrap_up hi (by omega : ts.length ≤ 9223372036854775807)]
      refine Ev.bind e1 ?_
      simp only [↓reduceIte]
      refine Ev.bind e2 ?_
      simp only [↓reduceIte]
      refine Ev.bind e3 ?_
      simp only [↓reduceIte]
      exact hr
     ·refine Or.inl (Ev.up ?_)
      simp only [r09_Light.l1, lt_int hi, nn, ↓reduceIte, rdT]
      refine Ev.bind e1 ?_
      cases b1 with
      | false => exact Ev.some _
      | true =>
       simp only [↓reduceIte]
       refine Ev.bind e2 ?_
       cases b2 with
       | false => exact Ev.some _
       | true =>
        simp only [↓reduceIte]
        refine Ev.bind e3 ?_
        cases b3 with
        | false => exact Ev.some _
        | true => exact absurd ⟨rfl, rfl, rfl⟩ d
    obtain ⟨b, hb⟩ := this
    refine ⟨b, Ev.up ?_⟩
    simp only [r09_Light.l0, Int.lt_irrefl, ↓reduceIte]
    exact hb
  obtain ⟨b, hb⟩ := this
  by_cases c : (ps.length : Int) > 6 ∨ (ts.length : Int) > 6
  ·refine ⟨false, ?_, fun h => by cases h⟩
   refine Ev.bind (small_ev nm ps ts) ?_
   rw [hs]
   simp only [smallR, ↓reduceIte]
   by_cases c1 : (ps.length : Int) > 6
   ·simp only [c1, ↓reduceIte]
    exact Ev.one (fun k => by simp only [r09_Light.j0, ↓reduceIte])
   ·have c2 : (ts.length : Int) > 6 := by omega
    simp only [c1, c2, ↓reduceIte, decide_true]
    exact Ev.one (fun k => by simp only [r09_Light.j0, ↓reduceIte])
  ·refine ⟨b, ?_, fun _ => hS⟩
   refine Ev.bind (small_ev nm ps ts) ?_
   rw [hs]
   simp only [smallR, ↓reduceIte, show ¬ ((ps.length : Int) > 6) by omega, show ¬ ((ts.length : Int) > 6) by omega, decide_false]
   refine Ev.up ?_
   simp only [r09_Light.j0, Bool.false_eq_true, ↓reduceIte]
   exact hb
end Go.Proofs.Ytaoogghpadifiaa.Pl
namespace Go.Proofs.Ytaoogghpadifiaa.Pure
open Go.RowKit Go.Proofs.Ytaoogghpadifiaa.P Go.Proofs.Ytaoogghpadifiaa.Pl Go.Proofs.YtaoogghpadifiaaW.PrintWords
theorem rdEd (xs : List Edg) (i : Nat) : rd_T59 xs (i : Int) = xs.getD i zE := by simp [rd_T59]
theorem set_done {nm : ByteArray} {ps : List Pla} {ts : List Tra} {l : Int} (h : (setR nm ps ts l).2.1 = true) : (treeR nm ps ts l).2.2 = 0 ∧ (treeR nm ps ts l).2.1 = true ∧ (setR nm ps ts l).1 = maxS (marksS (treeR nm ps ts l).1) := by
 unfold setR setOf at h ⊢
 by_cases c : (treeR nm ps ts l).2.2 = 0
 ·rw [if_pos c] at h ⊢
  by_cases d : (treeR nm ps ts l).2.1 = true
  ·rw [if_pos d] at h ⊢
   exact ⟨c, d, rfl⟩
  ·rw [if_neg d] at h; cases h
 ·rw [if_neg c] at h; cases h
def covT (n : Nat) (m : List Int) (l : List (List Int)) : Nat → Bool
 | 0 => false
 | i + 1 => if covT n m l i = true then true else if v04 m n = true then lq04 m (l.getD i []) else false
theorem covT_succ (n : Nat) (m : List Int) (l : List (List Int)) (i : Nat) : covT n m l (i + 1) = if covT n m l i = true then true else if v04 m n = true then lq04 m (l.getD i []) else false := rfl
theorem covT_iff {n : Nat} {m : List Int} {l : List (List Int)} : ∀ i, covT n m l i = true ↔ ∃ j, j < i ∧ covP n m (l.getD j [])
 | 0 => ⟨fun h => (by cases h), fun ⟨j, hj, _⟩ => absurd hj (Nat.not_lt_zero _)⟩
 | i + 1 => by
  have ih := covT_iff (n := n) (m := m) (l := l) i
  rw [covT_succ]
  by_cases c : covT n m l i = true
  ·rw [if_pos c]
   obtain ⟨j, hj, h⟩ := ih.1 c
   exact ⟨fun _ => ⟨j, by omega, h⟩, fun _ => rfl⟩
  ·rw [if_neg c]
   constructor
   ·intro h
    by_cases d : v04 m n = true
    ·rw [if_pos d] at h; exact ⟨i, by omega, d, h⟩
    ·rw [if_neg d] at h; cases h
   ·rintro ⟨j, hj, h1, h2⟩
    by_cases e : j = i
    ·subst e; rw [if_pos h1]; exact h2
    ·exact absurd (ih.2 ⟨j, by omega, h1, h2⟩) c
section
variable {nm : ByteArray} {ps : List Pla} {ts : List Tra}
theorem dec_last {m : List Int} {set : List (List Int)} {cX : Bool} {dp : List Bool} (hd : dp.length ≤ 1000000) (h : Ev (fun k => (qAW.f k set).bind fun a => (if a = true then ((qAU.f k set m).bind fun b => (if (b == cX) = true then ((qAV.f k nm ps ts set).bind fun c => ((r04_Same.f k c (onT dp dp.length)).bind fun d => (if d = true then ((qAB.f k).bind fun e => (some e)) else (none)))) else (none))) else (none))) true) :
  Ev (fun k => qAA.l2 k m set cX dp ([] : List Int) 0 nm ps ts) true := by
 refine Ev_st (L := fun k s i => qAA.l2 k m set cX dp s i nm ps ts) (n := dp.length) (fun i => onT dp i) (fun i hi hs => ?_) ?_
 ·have hl := onT_len dp i
  rw [onT_succ] at hs
  refine Ev.up ?_
  simp only [qAA.l2, lt_int hi, nn, ↓reduceIte, rdOf_nat, show (onT dp i).length < 17592186044416 by omega, wrap_up hi (by omega : dp.length ≤ 9223372036854775807)]
  by_cases x : dp.getD i false = true
  ·simp only [x, ↓reduceIte] at hs ⊢; exact hs
  ·simp only [x, Bool.false_eq_true, ↓reduceIte] at hs ⊢; exact hs
 ·refine Ev.up ?_
  simp only [qAA.l2, Int.lt_irrefl, ↓reduceIte]
  exact h
theorem dec_edges {m : List Int} {set : List (List Int)} {cX ba : Bool} {l : List (List Int)} {ed : List Edg} (hd : ed.length ≤ 1000000000000) {n : Nat} (hn : n ≤ 1000000) (he : ∀ e ∈ ed, ∃ k : Nat, e.f1 = (k : Int) ∧ k < n) (h : Ev (fun k => qAA.l2 k m set cX (frT ed n ed.length) ([] : List Int) 0 nm ps ts) true) :
  Ev (fun k => qAA.l1 k m set cX (List.replicate n false) 0 nm ps ts l ed ba) true := by
 refine Ev_st (L := fun k s i => qAA.l1 k m set cX s i nm ps ts l ed ba) (n := ed.length) (fun i => frT ed n i) (fun i hi hs => ?_) ?_
 ·obtain ⟨t, et, ht⟩ := he _ (getD_mem ed zE hi)
  have hlen := frT_len ed n i
  have e2 : frT ed n (i + 1) = (frT ed n i).set t true := by
   show (frT ed n i).set (ed.getD i zE).f1.toNat true = _
   rw [et, Int.toNat_natCast]
  rw [e2] at hs
  refine Ev.up ?_
  simp only [qAA.l1, lt_int hi, nn, ↓reduceIte, rdEd, et, hlen, lt_int ht, Int.toNat_natCast, wrap_up hi (by omega : ed.length ≤ 9223372036854775807)]
  exact hs
 ·refine Ev.up ?_
  simp only [qAA.l1, Int.lt_irrefl, ↓reduceIte]
  exact h
theorem dec_states {m : List Int} (hm : m.length ≤ 17592186043904) {set : List (List Int)} {ba : Bool} {l : List (List Int)} {ed : List Edg} (hl : l.length ≤ 1000000) (ht : ts.length ≤ 1000000) (h : Ev (fun k => qAA.l1 k m set (covT ps.length m l l.length) (List.replicate ts.length false) 0 nm ps ts l ed ba) true) :
  Ev (fun k => qAA.l0 k m set false 0 nm ps ts l ed ba) true := by
 refine Ev_st (L := fun k s i => qAA.l0 k m set s i nm ps ts l ed ba) (n := l.length) (fun i => covT ps.length m l i) (fun i hi hs => ?_) ?_
 ·rw [covT_succ] at hs
  refine Ev.up ?_
  simp only [qAA.l0, lt_int hi, nn, ↓reduceIte, rdL, wrap_up hi (by omega : l.length ≤ 9223372036854775807)]
  by_cases c : covT ps.length m l i = true
  ·simp only [c, ↓reduceIte] at hs ⊢; exact hs
  ·simp only [c, Bool.false_eq_true, ↓reduceIte] at hs ⊢
   refine Ev.bind (v04_ev m ps.length hm) ?_
   by_cases d : v04 m ps.length = true
   ·simp only [d, ↓reduceIte] at hs ⊢
    exact Ev.bind (lq04_ev m _ hm) hs
   ·simp only [d, Bool.false_eq_true, ↓reduceIte] at hs ⊢; exact hs
 ·refine Ev.up ?_
  simp only [qAA.l0, Int.lt_irrefl, ↓reduceIte, nn, Int.toNat_natCast, show ts.length ≤ 281474976710656 by omega]
  exact h
end
theorem MincoverDecides (nm : ByteArray) (ps : List Pla) (ts : List Tra) {w : Prop} (_h : w) (m : List Int) {w1 : Prop} (hm : m.length * 8 ≤ 140737488351232 ∧ w1) (seq : List Int) {w2 : Prop} (_h2 : w2) : ∃ k, qAA.f k nm ps ts m seq = some true := by
 refine Ev.rounds (g := fun k => qAA.f k nm ps ts m seq) ?_
 unfold qAA.f
 have hml : m.length ≤ 17592186043904 := by have := hm.1; omega
 refine Ev.bind (small_ev nm ps ts) ?_
 have off : ∀ (nm : ByteArray) (ps : List Pla) (ts : List Tra), Ev (fun k => qAA.j0 k m seq true nm ps ts) true := fun nm ps ts => by
  refine Ev.up ?_
  simp only [qAA.j0, ↓reduceIte]
  exact alive'
 cases hs : smallS nm ps ts with
 | false =>
  simp only [smallR, Bool.false_eq_true, ↓reduceIte]
  exact off _ _ _
 | true =>
  have hS := smallS_true hs
  have hp : ps.length ≤ 1000000 := Nat.le_trans hS.p (by decide)
  have ht : ts.length ≤ 1000000 := Nat.le_trans hS.t (by decide)
  have hT := hS.thin
  simp only [smallR, ↓reduceIte]
  obtain ⟨b, hb, _⟩ := light_ev nm ps ts
  refine Ev.bind hb ?_
  cases b with
  | false => simp only [Bool.false_eq_true, ↓reduceIte]; exact off _ _ _
  | true =>
   simp only [↓reduceIte]
   by_cases c : (seq.length : Int) > 40
   ·simp only [c, decide_true]; exact off _ _ _
   ·simp only [c, decide_false]
    refine Ev.up ?_
    simp only [qAA.j0, Bool.false_eq_true, ↓reduceIte]
    refine Ev.bind (mset_ev nm hp ht hT 200) ?_
    have off1 : ∀ s, Ev (fun k => qAA.j1 k m seq s true nm ps ts) true := fun s => by
     refine Ev.up ?_
     simp only [qAA.j1, ↓reduceIte]
     exact alive'
    by_cases h0 : (setR nm ps ts 200).2.2 = 0
    ·simp only [h0, ↓reduceIte]
     cases h1 : (setR nm ps ts 200).2.1 with
     | false => simp only [Bool.not_false]; exact off1 _
     | true =>
      simp only [Bool.not_true]
      obtain ⟨a1, a2, a3⟩ := set_done h1
      obtain ⟨hv, hpl, hnet, ho, hlen, hk⟩ := treeR_ok a1 a2
      have hfo := first_om hv
      obtain ⟨hz1, hz2⟩ := setR_small nm hp ts 200
      rw [a3] at hz1 hz2 ⊢
      generalize (treeR nm ps ts 200).1 = tr at ho hlen hk hz1 hz2 ⊢
      have hfw : FewS (maxS (marksS tr)) := ⟨hz1, fun x hx => Nat.le_trans (hz2 x hx) (by decide)⟩
      have hps := hnet.places
      refine Ev.up ?_
      simp only [qAA.j1, Bool.false_eq_true, ↓reduceIte]
      refine Ev.bind (refinitial_ev nm hp hT) ?_
      rw [hv, initialS, if_pos rfl]
      have hroot : Cov tr (ps.map (·.f1)) := ⟨0, ho.ne, by rw [ho.root]; exact Le.refl _⟩
      have cfirst := set_covers hnet ho hk hfo.1 hfo.2 hroot
      have efirst := mcovers_ev hfw (hfo.1.le hps)
      rw [cfirst] at efirst
      have rest : Ev (fun k => qAA.j2 k m (maxS (marksS tr)) false nm ps ts) true := by
       refine Ev.up ?_
       simp only [qAA.j2, Bool.false_eq_true, ↓reduceIte]
       obtain ⟨r, hr, hg⟩ := explore_ev (many := 100) (nm := nm) hnet hT hv (by omega) (by omega)
       refine Ev.bind hr ?_
       have off3 : ∀ a b c, Ev (fun k => qAA.j3 k m (maxS (marksS tr)) true nm ps ts a b c) true := fun a b c => by
        refine Ev.up ?_
        simp only [qAA.j3, ↓reduceIte]
        exact alive'
       rcases hg with hg | ⟨g0, g1⟩
       ·simp only [hg, ↓reduceIte]; exact off3 _ _ _
       ·simp only [g0, ↓reduceIte]
        cases hc : r.2.2.1 with
        | false => simp only [Bool.not_false]; exact off3 _ _ _
        | true =>
         simp only [Bool.not_true]
         have hx := g1 hc
         generalize r.1 = l at hx ⊢
         generalize r.2.1 = ed at hx ⊢
         refine Ev.up ?_
         simp only [qAA.j3, Bool.false_eq_true, ↓reduceIte]
         have hll := hx.inx.len
         refine dec_states hml (by omega) ht ?_
         refine dec_edges (by have := hx.el; omega) ht (edge_tr hx) ?_
         have hfl := frT_len ed ts.length ed.length
         refine dec_last (by omega) ?_
         rw [hfl]
         refine Ev.bind (bounded_true hnet ho hk hfo.2 hx hfw) ?_
         simp only [↓reduceIte]
         refine Ev.bind (mcovers_ev hfw hml) ?_
         have ec : cvL (maxS (marksS tr)) m = covT ps.length m l l.length := by
          have h1 := covers_same hnet ho hk hfo.2 hx m
          have h2 := covT_iff (n := ps.length) (m := m) (l := l) l.length
          rw [Bool.eq_iff_iff]
          exact h1.trans h2.symm
         rw [ec]
         simp only [beq_self_eq_true, ↓reduceIte]
         refine Ev.bind (mquasi_ev hp ht hT hfw) ?_
         rw [quasi_same hnet hv ho hk hfo.2 hx]
         have hol := onT_len (frT ed ts.length ed.length) ts.length
         refine Ev.bind (same04_ev _ _ (by omega)) ?_
         simp only [decide_true, ↓reduceIte]
         exact alive'
      obtain ⟨r, hr, hr2⟩ := run11_ev hnet hT hv (Q := fun m => Cov tr m) (fun m om fm cm t ht hc => cm.step ho hnet.arcs hk om.len fm ht hc) (seq := seq) (by omega) hfo.1 hfo.2 hroot
      refine Ev.bind hr ?_
      by_cases z : r.2.1 = 0
      ·obtain ⟨om, fm, cm⟩ := hr2 z
       have e1 := mcovers_ev hfw (om.le hps)
       rw [set_covers hnet ho hk om fm cm] at e1
       simp only [z, ↓reduceIte]
       refine Ev.bind e1 ?_
       simp only [↓reduceIte]
       refine Ev.bind efirst ?_
       simp only [Bool.not_true]
       exact rest
      ·simp only [z, ↓reduceIte]
       refine Ev.bind efirst ?_
       simp only [Bool.not_true]
       exact rest
    ·simp only [h0, ↓reduceIte]
     exact off1 _
end Go.Proofs.Ytaoogghpadifiaa.Pure
