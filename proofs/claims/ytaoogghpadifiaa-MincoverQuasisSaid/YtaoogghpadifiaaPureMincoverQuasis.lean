/- The plain law of MincoverQuasis: for every net and set the law's function answers true, with rounds enough. -/
-- MERGED: the plain texts that it needs, in one
import Derived.Test.YtaoogghpadifiaaPx18
import Derived.Test.YtaoogghpadifiaaPx7
import Derived.Test.YtaoogghpadifiaaVAll
import Derived.Test.YtaoogghpadifiaaPx17
import Derived.Test.YtaoogghpadifiaaPx4
import Derived.Laws.Strings
import Derived.WideShapes
import Derived.Test.YtaoogghpadifiaaPx5
import Derived.Test.YtaoogghpadifiaaPx0
import Derived.Test.YtaoogghpadifiaaPx9
import Derived.Test.YtaoogghpadifiaaPx10
import Derived.Test.YtaoogghpadifiaaPx3
import Derived.Test.YtaoogghpadifiaaPx1
set_option linter.unusedVariables false
set_option linter.unusedSimpArgs false
namespace Go.Proofs.Ytaoogghpadifiaa.Pl
open Go.RowKit Go.Proofs.YtaoogghpadifiaaW.PrintWords Go.Proofs.YtaoogghpadifiaaW.PrintMore
theorem wrap_ok {x : Int} (h0 : -9223372036854775808 ≤ x) (h1 : x ≤ 9223372036854775807) : wrap64 x = x := by unfold wrap64; omega
theorem wrap_up {i n : Nat} (h : i < n) (hn : n ≤ 9223372036854775807) : wrap64 ((i : Int) + 1) = ((i + 1 : Nat) : Int) := by rw [wrap_ok (by omega) (by omega)]; omega
theorem Ev.some {α : Type} (r : α) : Ev (fun _ => Option.some r) r := ⟨0, fun _ _ => rfl⟩
theorem Ev.one {α : Type} {g : Nat → Option α} {r : α} (h : ∀ k, g (k + 1) = Option.some r) : Ev g r := Ev.step h (Ev.some r)
section
variable {α : Type}
theorem rd_nat (xs : List Int) (i : Nat) : rd xs (i : Int) = xs.getD i 0 := by simp [rd]
theorem rdOf_nat (d : α) (xs : List α) (i : Nat) : rdOf d xs (i : Int) = xs.getD i d := by simp [rdOf]
end
def firstOr {ρ : Type} (p : Nat → Option ρ) (e : ρ) : Nat → Nat → ρ
 | _, 0 => e
 | i, d + 1 => match p i with | some r => r | none => firstOr p e (i + 1) d
theorem firstOr_cases {ρ : Type} (p : Nat → Option ρ) (e : ρ) : ∀ (d i : Nat), (firstOr p e i d = e ∧ ∀ j, i ≤ j → j < i + d → p j = none) ∨ ∃ j, i ≤ j ∧ j < i + d ∧ p j = some (firstOr p e i d) ∧ ∀ m, i ≤ m → m < j → p m = none
 | 0, i => .inl ⟨rfl, fun j h1 h2 => by omega⟩
 | d + 1, i => by
  unfold firstOr
  cases h : p i with
  | some r => exact .inr ⟨i, Nat.le_refl _, by omega, h, fun m h1 h2 => by omega⟩
  | none =>
   rcases firstOr_cases p e d (i + 1) with ⟨h1, h2⟩ | ⟨j, h1, h2, h3, h4⟩
   ·refine .inl ⟨h1, fun j j1 j2 => ?_⟩
    by_cases hj : j = i
    ·rw [hj]; exact h
    ·exact h2 j (by omega) (by omega)
   ·refine .inr ⟨j, by omega, by omega, h3, fun m m1 m2 => ?_⟩
    by_cases hm : m = i
    ·rw [hm]; exact h
    ·exact h4 m (by omega) m2
theorem firstOr_all {ρ : Type} {p : Nat → Option ρ} {e : ρ} : ∀ {d i : Nat}, (∀ j, i ≤ j → j < i + d → p j = none) → firstOr p e i d = e
 | 0, _, _ => rfl
 | d + 1, i, h => by
  unfold firstOr
  rw [h i (Nat.le_refl _) (by omega)]
  exact firstOr_all (fun j h1 h2 => h j (by omega) (by omega))
theorem firstOr_at {ρ : Type} {p : Nat → Option ρ} {e r : ρ} : ∀ {d i : Nat} (j : Nat), i ≤ j → j < i + d → p j = some r → (∀ m, i ≤ m → m < j → p m = none) → firstOr p e i d = r
 | 0, _, _, h1, h2, _, _ => by omega
 | d + 1, i, j, h1, h2, h3, h4 => by
  unfold firstOr
  by_cases hj : j = i
  ·subst hj; rw [h3]
  ·rw [h4 i (Nat.le_refl _) (by omega)]
   exact firstOr_at j (by omega) (by omega) h3 (fun m m1 m2 => h4 m (by omega) m2)
def first {ρ : Type} (p : Nat → Option ρ) (e : ρ) (n : Nat) : ρ := firstOr p e 0 n
theorem first_cases {ρ : Type} (p : Nat → Option ρ) (e : ρ) (n : Nat) : (first p e n = e ∧ ∀ j, j < n → p j = none) ∨ ∃ j, j < n ∧ p j = some (first p e n) ∧ ∀ m, m < j → p m = none := by
 rcases firstOr_cases p e n 0 with ⟨h1, h2⟩ | ⟨j, _, h2, h3, h4⟩
 · exact .inl ⟨h1, fun j h => h2 j (Nat.zero_le _) (by omega)⟩
 · exact .inr ⟨j, by omega, h3, fun m h => h4 m (Nat.zero_le _) h⟩
theorem first_all {ρ : Type} {p : Nat → Option ρ} {e : ρ} {n : Nat} (h : ∀ j, j < n → p j = none) : first p e n = e := firstOr_all (fun j _ h2 => h j (by omega))
theorem first_at {ρ : Type} {p : Nat → Option ρ} {e r : ρ} {n : Nat} (j : Nat) (h2 : j < n) (h3 : p j = some r) (h4 : ∀ m, m < j → p m = none) : first p e n = r := firstOr_at j (Nat.zero_le _) (by omega) h3 (fun m _ h => h4 m h)
theorem Ev_firstFrom {ρ : Type} {L : Nat → Nat → Option ρ} {n : Nat} (p : Nat → Option ρ) {e : ρ}
  (go : ∀ i, i < n → p i = none → ∀ r, Ev (fun k => L k (i + 1)) r → Ev (fun k => L k i) r)
  (stop : ∀ i r, i < n → p i = some r → Ev (fun k => L k i) r) (fin : (∀ j, j < n → p j = none) → Ev (fun k => L k n) e) :
  ∀ (d i : Nat), i + d = n → (∀ j, j < i → p j = none) → Ev (fun k => L k i) (firstOr p e i d) := by
 intro d
 induction d with
 | zero =>
  intro i hi hb
  obtain rfl : i = n := by omega
  exact fin hb
 | succ d ih =>
  intro i hi hb
  unfold firstOr
  cases h : p i with
  | some r => exact stop i r (by omega) h
  | none => exact go i (by omega) h _ (ih (i + 1) (by omega) (fun j hj => by
    by_cases e : j = i
    ·rw [e]; exact h
    ·exact hb j (by omega)))
theorem Ev_first' {ρ : Type} {L : Nat → Nat → Option ρ} {n : Nat} (p : Nat → Option ρ) {e : ρ}
  (go : ∀ i, i < n → p i = none → ∀ r, Ev (fun k => L k (i + 1)) r → Ev (fun k => L k i) r)
  (stop : ∀ i r, i < n → p i = some r → Ev (fun k => L k i) r) (fin : (∀ j, j < n → p j = none) → Ev (fun k => L k n) e) : Ev (fun k => L k 0) (first p e n) :=
 Ev_firstFrom p go stop fin n 0 (by omega) (fun j h => by omega)
theorem Ev_first {ρ : Type} {L : Nat → Nat → Option ρ} {n : Nat} (p : Nat → Option ρ) {e : ρ}
  (go : ∀ i, i < n → p i = none → ∀ r, Ev (fun k => L k (i + 1)) r → Ev (fun k => L k i) r)
  (stop : ∀ i r, i < n → p i = some r → Ev (fun k => L k i) r) (fin : Ev (fun k => L k n) e) : Ev (fun k => L k 0) (first p e n) :=
 Ev_first' p go stop (fun _ => fin)
theorem Ev_up {ρ : Type} {L : Nat → Nat → Option ρ} {n : Nat} {r : ρ}
  (go : ∀ i, i < n → Ev (fun k => L k (i + 1)) r → Ev (fun k => L k i) r) (fin : Ev (fun k => L k n) r) : Ev (fun k => L k 0) r := by
 have h : ∀ d i, i + d = n → Ev (fun k => L k i) r := by
  intro d
  induction d with
  | zero =>
   intro i hi
   obtain rfl : i = n := by omega
   exact fin
  | succ d ih => intro i hi; exact go i (by omega) (ih (i + 1) (by omega))
 exact h n 0 (by omega)
theorem take_map_succ {α β : Type} (l : List α) (f : α → β) (z : α) {i : Nat} (h : i < l.length) : (l.take (i + 1)).map f = (l.take i).map f ++ [f (l.getD i z)] := by
 rw [List.take_succ_eq_append_getElem h, List.map_append, List.getD_eq_getElem?_getD, List.getElem?_eq_getElem h]
 rfl
theorem getD_mem {α : Type} (l : List α) (z : α) {i : Nat} (h : i < l.length) : l.getD i z ∈ l := by
 rw [List.getD_eq_getElem?_getD, List.getElem?_eq_getElem h]
 exact List.getElem_mem h
theorem filter_range_succ (q : Nat → Bool) (i : Nat) : (List.range (i + 1)).filter q = if q i = true then (List.range i).filter q ++ [i] else (List.range i).filter q := by
 rw [List.range_succ, List.filter_append]
 by_cases h : q i = true
 · rw [if_pos h, List.filter_cons_of_pos h]; rfl
 · rw [if_neg h, List.filter_cons_of_neg h]; simp
theorem Ev.stepn {α : Type} {g f : Nat → Option α} {r : α} (m : Nat) (h : ∀ k, g (k + m) = f k) (hf : Ev f r) : Ev g r := by
 obtain ⟨K, hK⟩ := hf
 exact ⟨K + m, fun k hk => by obtain ⟨d, rfl⟩ : ∃ d, k = d + m := ⟨k - m, by omega⟩; rw [h]; exact hK d (by omega)⟩
theorem ite_or {α : Type} (c1 c2 : Prop) [Decidable c1] [Decidable c2] (g : Bool → α) : (if c1 then g true else g (decide c2)) = g (decide (c1 ∨ c2)) := by
 by_cases h : c1
 · rw [if_pos h, decide_eq_true (Or.inl h)]
 · rw [if_neg h]; congr 1; simp [h]
theorem ite_or2 {α : Type} (c1 c2 : Prop) [Decidable c1] [Decidable c2] (a b : α) : (if c1 then a else if c2 then a else b) = if c1 ∨ c2 then a else b := by
 by_cases h : c1
 ·rw [if_pos h, if_pos (Or.inl h)]
 ·by_cases h2 : c2
  ·rw [if_neg h, if_pos h2, if_pos (Or.inr h2)]
  ·rw [if_neg h, if_neg h2, if_neg (fun h3 => h3.elim h h2)]
theorem of_ite_none {α : Type} {c : Prop} [Decidable c] {a : α} (h : (if c then none else some a) = none) : c := Classical.byContradiction fun hn => by rw [if_neg hn] at h; cases h
theorem of_ite_some {α : Type} {c : Prop} [Decidable c] {a r : α} (h : (if c then none else some a) = some r) : ¬ c ∧ a = r := by
 by_cases hc : c
 · rw [if_pos hc] at h; cases h
 · rw [if_neg hc] at h; exact ⟨hc, Option.some.inj h⟩
def stepO {ρ : Type} (a : Option ρ) (b : Option ρ) : Option ρ := match a with | some r => some r | none => b
theorem Ev_loop {ρ : Type} {L : Nat → Nat → Option ρ} {n : Nat} (m : Nat) (p : Nat → Option ρ) {e : ρ}
  (step : ∀ k i, i < n → L (k + m) i = stepO (p i) (L k (i + 1))) (fin : Ev (fun k => L k n) e) : Ev (fun k => L k 0) (first p e n) :=
 Ev_first p (fun i hi hp r hr => Ev.stepn m (fun k => by rw [step k i hi, hp]; rfl) hr) (fun i r hi hp => Ev.stepn m (f := fun _ => some r) (fun k => by rw [step k i hi, hp]; rfl) (Ev.some r)) fin
theorem first_any {ρ : Type} (c : Nat → Prop) [DecidablePred c] (a e : ρ) (n : Nat) : first (fun j => if c j then some a else none) e n = if ∃ j, j < n ∧ c j then a else e := by
 rcases first_cases (fun j => if c j then some a else none) e n with ⟨h1, h2⟩ | ⟨j, h1, h2, h3⟩
 ·rw [h1, if_neg]
  rintro ⟨j, hj, hc⟩
  have := h2 j hj
  simp [hc] at this
 ·have hc : c j := by
   refine Classical.byContradiction fun hn => ?_
   simp [hn] at h2
  rw [if_pos ⟨j, h1, hc⟩]
  simp [hc] at h2
  exact h2.symm
theorem any_take {α β : Type} (l : List α) (f : α → β) (q : β → Bool) (z : α) {i : Nat} (hi : i ≤ l.length) : ((l.take i).map f).any q = true ↔ ∃ j, j < i ∧ q (f (l.getD j z)) = true := by
 rw [List.any_eq_true]
 constructor
 ·rintro ⟨x, hx, hq⟩
  obtain ⟨y, hy, rfl⟩ := List.mem_map.1 hx
  obtain ⟨j, hj, rfl⟩ := List.getElem_of_mem hy
  rw [List.length_take] at hj
  refine ⟨j, by omega, ?_⟩
  rw [List.getElem_take] at hq
  rw [List.getD_eq_getElem?_getD, List.getElem?_eq_getElem (by omega)]
  exact hq
 ·rintro ⟨j, hj, hq⟩
  refine ⟨f (l.getD j z), List.mem_map.2 ⟨l.getD j z, ?_, rfl⟩, hq⟩
  rw [List.getD_eq_getElem?_getD, List.getElem?_eq_getElem (by omega)]
  exact List.mem_take_iff_getElem.2 ⟨j, by omega, rfl⟩
theorem any_all {α β : Type} (l : List α) (f : α → β) (q : β → Bool) (z : α) : (l.map f).any q = true ↔ ∃ j, j < l.length ∧ q (f (l.getD j z)) = true := by
 have := any_take l f q z (Nat.le_refl l.length)
 rwa [List.take_length] at this
theorem dec_t {p : Prop} {i : Decidable p} (h : p) : @decide p i = true := decide_eq_true h
theorem dec_f {p : Prop} {i : Decidable p} (h : ¬ p) : @decide p i = false := decide_eq_false h
theorem Ev_st {ρ σ : Type} {L : Nat → σ → Int → Option ρ} {n : Nat} {r : ρ} (s : Nat → σ)
  (go : ∀ i, i < n → Ev (fun k => L k (s (i + 1)) ((i + 1 : Nat) : Int)) r → Ev (fun k => L k (s i) (i : Int)) r) (fin : Ev (fun k => L k (s n) (n : Int)) r) : Ev (fun k => L k (s 0) 0) r :=
 Ev_up (L := fun k i => L k (s i) (i : Int)) (n := n) go fin
abbrev mr {α : Type} (n : Nat) (f : Nat → α) : List α := (List.range n).map f
theorem mr_get {α : Type} {n v : Nat} (f : Nat → α) (d : α) (h : v < n) : (mr n f).getD v d = f v := by
 rw [List.getD_eq_getElem?_getD, List.getElem?_map, List.getElem?_range h]; rfl
theorem mr_len {α : Type} (n : Nat) (f : Nat → α) : (mr n f).length = n := by rw [List.length_map, List.length_range]
theorem Ev.up {α : Type} {g : Nat → Option α} {r : α} (h : Ev (fun k => g (k + 1)) r) : Ev g r := Ev.step (fun _ => rfl) h
theorem nn (i : Nat) : 0 ≤ (i : Int) := Int.natCast_nonneg i
theorem lt_int {i n : Nat} (h : i < n) : (i : Int) < (n : Int) := by omega
open Go.Proofs.Ytaoogghpadifiaa.P
set_option maxRecDepth 100000 in
theorem alive : Ev (fun k => petrinetlaw23_exampleHolds.f k) true := Ev.of (fun k => petrinetlaw23_exampleHolds.mono k) (k := 60) (by decide +kernel)
theorem alive' : Ev (fun k => (petrinetlaw23_exampleHolds.f k).bind fun t => some t) true := Ev.bind alive (Ev.some _)
abbrev Pla := S64
abbrev Tra := S38
abbrev Ac := S68
abbrev zP : Pla := z64
abbrev zT : Tra := z38
abbrev zA : Ac := z68
theorem rdP (xs : List Pla) (i : Nat) : rd_T64 xs (i : Int) = xs.getD i zP := by simp [rd_T64]
theorem rdT (xs : List Tra) (i : Nat) : rd_T38 xs (i : Int) = xs.getD i zT := by simp [rd_T38]
theorem rdA (xs : List Ac) (i : Nat) : rd_T68 xs (i : Int) = xs.getD i zA := by simp [rd_T68]
theorem rdAs (xs : List (List Ac)) (i : Nat) : rd_L4 xs (i : Int) = xs.getD i [] := by simp [rd_L4]
def arcE (np : Int) (l : List Ac) (i : Nat) : Option Int :=
 if (l.getD i zA).f0 < 0 ∨ (l.getD i zA).f0 ≥ np then some 7 else if 0 < i ∧ (l.getD (i - 1) zA).f0 ≥ (l.getD i zA).f0 then some 8 else if (l.getD i zA).f1 < 1 ∨ (l.getD i zA).f1 > 99 then some 9 else none
def arcsE (np : Int) (l : List Ac) : Int := first (arcE np l) 0 l.length
theorem checkArcs_step (k : Nat) (l : List Ac) (np : Int) (i : Nat) (hi : i < l.length) (hl : l.length ≤ 1000000) :
  net_checkArcs.l0 (k + 3) l np l (l.length : Int) (i : Int) = stepO (arcE np l i) (net_checkArcs.l0 k l np l (l.length : Int) ((i + 1 : Nat) : Int)) := by
 simp only [net_checkArcs.l0]
 rw [if_pos (by omega), if_pos (by omega), if_pos (by omega), rdA, ite_or _ _ (fun b => net_checkArcs.j1 (k + 2) l np (i : Int) l (l.length : Int) (i : Int) b (l.getD i zA).f0 (l.getD i zA).f1)]
 unfold arcE
 by_cases c1 : (l.getD i zA).f0 < 0 ∨ (l.getD i zA).f0 ≥ np
 ·rw [decide_eq_true c1, if_pos c1]; simp only [net_checkArcs.j1, ↓reduceIte, stepO]
 ·rw [decide_eq_false c1, if_neg c1]
  have e2 : ∀ b : Bool, net_checkArcs.j2 (k + 1) l np l (l.length : Int) (i : Int) b (l.getD i zA).f0 (l.getD i zA).f1 = if b = true then some 8 else if (l.getD i zA).f1 < 1 ∨ (l.getD i zA).f1 > 99 then some 9 else net_checkArcs.l0 k l np l (l.length : Int) ((i + 1 : Nat) : Int) := by
   intro b
   simp only [net_checkArcs.j2]
   rw [wrap_up hi (by omega), ite_or2]
  simp only [net_checkArcs.j1]
  rw [if_neg Bool.false_ne_true]
  by_cases c2 : 0 < i
  ·rw [if_pos (by omega), if_pos (by rw [wrap_ok (by omega) (by omega)]; omega), if_pos (by rw [wrap_ok (by omega) (by omega)]; omega), wrap_ok (x := (i : Int) - 1) (by omega) (by omega), show ((i : Int) - 1) = ((i - 1 : Nat) : Int) by omega, rdA, e2]
   by_cases c3 : (l.getD (i - 1) zA).f0 ≥ (l.getD i zA).f0
   ·rw [decide_eq_true c3, if_pos rfl, if_pos ⟨c2, c3⟩]; rfl
   ·rw [decide_eq_false c3, if_neg Bool.false_ne_true, if_neg (show ¬ (0 < i ∧ (l.getD (i - 1) zA).f0 ≥ (l.getD i zA).f0) from fun h => c3 h.2)]
    by_cases d : (l.getD i zA).f1 < 1 ∨ (l.getD i zA).f1 > 99
    ·rw [if_pos d, if_pos d]; rfl
    ·rw [if_neg d, if_neg d]; rfl
  ·rw [if_neg (by omega), e2, if_neg Bool.false_ne_true, if_neg (show ¬ (0 < i ∧ (l.getD (i - 1) zA).f0 ≥ (l.getD i zA).f0) from fun h => c2 h.1)]
   by_cases d : (l.getD i zA).f1 < 1 ∨ (l.getD i zA).f1 > 99
   ·rw [if_pos d, if_pos d]; rfl
   ·rw [if_neg d, if_neg d]; rfl
theorem checkArcs_ev (l : List Ac) (np : Int) (hl : l.length ≤ 1000000) : Ev (fun k => net_checkArcs.f k l np) (arcsE np l) :=
 Ev_loop (L := fun k i => net_checkArcs.l0 k l np l (l.length : Int) (i : Int)) 3 (arcE np l) (fun k i hi => checkArcs_step k l np i hi hl)
  (Ev.one (fun k => by simp only [net_checkArcs.l0]; rw [if_neg (by omega)]))
def transE (np : Int) (t : Tra) : Int := if t.f4 < 0 ∨ t.f4 > 9 then 1 else if arcsE np t.f1 ≠ 0 then arcsE np t.f1 else if arcsE np t.f2 ≠ 0 then arcsE np t.f2 else arcsE np t.f3
def ThinT (t : Tra) : Prop := t.f0.size ≤ 1000000 ∧ t.f1.length ≤ 1000000 ∧ t.f2.length ≤ 1000000 ∧ t.f3.length ≤ 1000000
theorem checkTrans_ev (t : Tra) (np : Int) (ht : ThinT t) : Ev (fun k => net_checkTrans.f k t.f0 t.f1 t.f2 t.f3 t.f4 np) (transE np t) := by
 have e0 : ∀ k, net_checkTrans.f k t.f0 t.f1 t.f2 t.f3 t.f4 np = net_checkTrans.j0 k np (decide (t.f4 < 0 ∨ t.f4 > 9)) t.f0 t.f1 t.f2 t.f3 t.f4 := fun k => by
  unfold net_checkTrans.f
  exact ite_or _ _ (fun b => net_checkTrans.j0 k np b t.f0 t.f1 t.f2 t.f3 t.f4)
 refine Ev.congr e0 ?_
 unfold transE
 by_cases c : t.f4 < 0 ∨ t.f4 > 9
 ·rw [decide_eq_true c, if_pos c]
  exact Ev.one (fun k => by simp only [net_checkTrans.j0, ↓reduceIte])
 ·rw [decide_eq_false c, if_neg c]
  refine Ev.step (f := fun k => net_checkTrans.l0 k np [t.f1, t.f2, t.f3] 3 ((0 : Nat) : Int)) (fun k => by simp only [net_checkTrans.j0]; rw [if_neg Bool.false_ne_true]; rfl) ?_
  have hm : ∀ i, i < 3 → ([t.f1, t.f2, t.f3].getD i []).length ≤ 1000000 := fun i hi => by
   obtain ⟨_, h1, h2, h3⟩ := ht
   rcases i with _ | _ | _ | i
   ·exact h1
   ·exact h2
   ·exact h3
   ·omega
  have h := Ev_first (L := fun k i => net_checkTrans.l0 k np [t.f1, t.f2, t.f3] 3 (i : Int)) (n := 3) (fun i => if arcsE np ([t.f1, t.f2, t.f3].getD i []) = 0 then none else some (arcsE np ([t.f1, t.f2, t.f3].getD i []))) (e := 0)
   (fun i hi hp r hr => Ev.step (f := fun k => (net_checkArcs.f k ([t.f1, t.f2, t.f3].getD i []) np).bind fun e => if e = 0 then net_checkTrans.l0 k np [t.f1, t.f2, t.f3] 3 ((i + 1 : Nat) : Int) else some e) (fun k => by
    simp only [net_checkTrans.l0]
    rw [if_pos (by omega), if_pos (by omega), if_pos (by simp only [List.length_cons, List.length_nil]; omega), rdAs, wrap_up hi (by omega)]) (by
     refine Ev.bind (checkArcs_ev _ np (hm i hi)) ?_
     have h0 : arcsE np ([t.f1, t.f2, t.f3].getD i []) = 0 := of_ite_none hp
     simp only [h0, ↓reduceIte]
     exact hr))
   (fun i r hi hp => Ev.step (f := fun k => (net_checkArcs.f k ([t.f1, t.f2, t.f3].getD i []) np).bind fun e => if e = 0 then net_checkTrans.l0 k np [t.f1, t.f2, t.f3] 3 ((i + 1 : Nat) : Int) else some e) (fun k => by
    simp only [net_checkTrans.l0]
    rw [if_pos (by omega), if_pos (by omega), if_pos (by simp only [List.length_cons, List.length_nil]; omega), rdAs, wrap_up hi (by omega)]) (by
     refine Ev.bind (checkArcs_ev _ np (hm i hi)) ?_
     obtain ⟨h0, rfl⟩ := of_ite_some hp
     simp only [h0, ↓reduceIte]
     exact Ev.some _))
   (Ev.one (fun k => by simp only [net_checkTrans.l0]; rw [if_neg (by omega)]))
  have e3 : first (fun i => if arcsE np ([t.f1, t.f2, t.f3].getD i []) = 0 then none else some (arcsE np ([t.f1, t.f2, t.f3].getD i []))) 0 3 = if arcsE np t.f1 ≠ 0 then arcsE np t.f1 else if arcsE np t.f2 ≠ 0 then arcsE np t.f2 else arcsE np t.f3 := by
   unfold first firstOr firstOr firstOr firstOr
   simp only [List.getD_cons_zero, List.getD_cons_succ]
   by_cases h1 : arcsE np t.f1 = 0
   ·by_cases h2 : arcsE np t.f2 = 0
    ·by_cases h3 : arcsE np t.f3 = 0 <;> simp [h1, h2, h3]
    ·simp [h1, h2]
   ·simp [h1]
  rw [← e3]
  exact h
def nmE (ns : List ByteArray) (s : ByteArray) : Int := if nameB s = true then (if (ns.any fun o => o.toList == s.toList) = true then 6 else 0) else 5
def plR (ps : List Pla) (i : Nat) : Int := if nmE ((ps.take i).map (·.f0)) (ps.getD i zP).f0 ≠ 0 then nmE ((ps.take i).map (·.f0)) (ps.getD i zP).f0 else placeE (ps.getD i zP).f1 (ps.getD i zP).f2
def trR (ps : List Pla) (ts : List Tra) (i : Nat) : Int := if nmE (ps.map (·.f0) ++ (ts.take i).map (·.f0)) (ts.getD i zT).f0 ≠ 0 then nmE (ps.map (·.f0) ++ (ts.take i).map (·.f0)) (ts.getD i zT).f0 else transE (ps.length : Int) (ts.getD i zT)
def pF (ps : List Pla) (i : Nat) : Option (Int × Int) := if plR ps i = 0 then none else some (plR ps i, (i : Int))
def tF (ps : List Pla) (ts : List Tra) (i : Nat) : Option (Int × Int) := if trR ps ts i = 0 then none else some (trR ps ts i, (ps.length : Int) + (i : Int))
def checkS (nm : ByteArray) (ps : List Pla) (ts : List Tra) : Int × Int :=
 if nameB nm = true then (if (ps.length : Int) < 1 ∨ (24 : Int) < (ps.length : Int) ∨ (24 : Int) < (ts.length : Int) then (2, 0) else first (pF ps) (first (tF ps ts) (0, 0) ts.length) ps.length) else (5, 0)
def validS (nm : ByteArray) (ps : List Pla) (ts : List Tra) : Bool := (checkS nm ps ts).1 == 0
def Thin (ts : List Tra) : Prop := ∀ t ∈ ts, ThinT t
theorem Thin.at {ts : List Tra} (h : Thin ts) {i : Nat} (hi : i < ts.length) : ThinT (ts.getD i zT) := h _ (getD_mem ts zT hi)
theorem addM_ev {ns : List ByteArray} {s : ByteArray} (h : ns.length < 1000000) : addM ns s = some (nmE ns s, if nmE ns s = 0 then ns ++ [s] else ns) := by
 unfold addM nmE
 by_cases h1 : nameB s = true
 ·by_cases h2 : (ns.any fun o => o.toList == s.toList) = true
  ·simp [h1, h2]
  ·rw [if_pos h1, if_neg h2, if_pos h, if_pos h1, if_neg h2]; simp
 ·simp [h1]
theorem check_ts {ps : List Pla} {ts : List Tra} (hp : ps.length ≤ 24) (ht : ts.length ≤ 24) (hT : Thin ts) : Ev (fun k => net_Check.l1 k ps ts (ps.map (·.f0)) 0) (first (tF ps ts) (0, 0) ts.length) := by
 have hlen : ∀ i, i ≤ ts.length → (ps.map (·.f0) ++ (ts.take i).map (·.f0)).length < 1000000 := fun i hi => by simp only [List.length_append, List.length_map, List.length_take]; omega
 have stp : ∀ i, i < ts.length → ∀ k, net_Check.l1 (k + 1) ps ts (ps.map (·.f0) ++ (ts.take i).map (·.f0)) (i : Int) = if nmE (ps.map (·.f0) ++ (ts.take i).map (·.f0)) (ts.getD i zT).f0 = 0 then ((net_checkTrans.f k (ts.getD i zT).f0 (ts.getD i zT).f1 (ts.getD i zT).f2 (ts.getD i zT).f3 (ts.getD i zT).f4 (ps.length : Int)).bind fun e => if e = 0 then net_Check.l1 k ps ts (ps.map (·.f0) ++ (ts.take (i + 1)).map (·.f0)) ((i + 1 : Nat) : Int) else some (e, (ps.length : Int) + (i : Int))) else some (nmE (ps.map (·.f0) ++ (ts.take i).map (·.f0)) (ts.getD i zT).f0, (ps.length : Int) + (i : Int)) := fun i hi k => by
  simp only [net_Check.l1]
  rw [if_pos (by omega), if_pos (by omega), rdT, addM_ev (hlen i (by omega)), wrap_up hi (by omega), wrap_ok (x := (ps.length : Int) + (i : Int)) (by omega) (by omega)]
  simp only [Option.bind_some]
  by_cases h0 : nmE (ps.map (·.f0) ++ (ts.take i).map (·.f0)) (ts.getD i zT).f0 = 0
  ·rw [if_pos h0, if_pos h0, if_pos h0, List.append_assoc, ← take_map_succ ts (fun t => t.f0) zT hi]
  ·rw [if_neg h0, if_neg h0]
 have h := Ev_first (L := fun k i => net_Check.l1 k ps ts (ps.map (·.f0) ++ (ts.take i).map (·.f0)) (i : Int)) (n := ts.length) (tF ps ts) (e := ((0 : Int), (0 : Int)))
  (fun i hi hf r hr => Ev.step (stp i hi) (by
   have hz : trR ps ts i = 0 := of_ite_none hf
   by_cases h0 : nmE (ps.map (·.f0) ++ (ts.take i).map (·.f0)) (ts.getD i zT).f0 = 0
   ·unfold trR at hz
    rw [if_neg (by simpa using h0)] at hz
    simp only [h0, ↓reduceIte]
    refine Ev.bind (checkTrans_ev _ _ (hT.at hi)) ?_
    simp only [hz, ↓reduceIte]
    exact hr
   ·unfold trR at hz
    rw [if_pos h0] at hz
    exact absurd hz h0))
  (fun i r hi hf => Ev.step (stp i hi) (by
   obtain ⟨hz, rfl⟩ := of_ite_some hf
   by_cases h0 : nmE (ps.map (·.f0) ++ (ts.take i).map (·.f0)) (ts.getD i zT).f0 = 0
   ·have e : trR ps ts i = transE (ps.length : Int) (ts.getD i zT) := by unfold trR; rw [if_neg (by simpa using h0)]
    rw [e] at hz ⊢
    simp only [h0, ↓reduceIte]
    refine Ev.bind (checkTrans_ev _ _ (hT.at hi)) ?_
    simp only [hz, ↓reduceIte]
    exact Ev.some _
   ·have e : trR ps ts i = nmE (ps.map (·.f0) ++ (ts.take i).map (·.f0)) (ts.getD i zT).f0 := by unfold trR; rw [if_pos h0]
    rw [e]
    simp only [h0, ↓reduceIte]
    exact Ev.some _))
  (Ev.one (fun k => by simp only [net_Check.l1]; rw [if_neg (by omega)]))
 simpa using h
theorem check_ps {ps : List Pla} {ts : List Tra} (hp : ps.length ≤ 24) (ht : ts.length ≤ 24) (hT : Thin ts) : Ev (fun k => net_Check.l0 k ps ts [] 0) (first (pF ps) (first (tF ps ts) (0, 0) ts.length) ps.length) := by
 have hlen : ∀ i, i ≤ ps.length → ((ps.take i).map (·.f0)).length < 1000000 := fun i hi => by simp only [List.length_map, List.length_take]; omega
 have stp : ∀ i, i < ps.length → ∀ k, net_Check.l0 (k + 1) ps ts ((ps.take i).map (·.f0)) (i : Int) = if nmE ((ps.take i).map (·.f0)) (ps.getD i zP).f0 = 0 then (if placeE (ps.getD i zP).f1 (ps.getD i zP).f2 = 0 then net_Check.l0 k ps ts ((ps.take (i + 1)).map (·.f0)) ((i + 1 : Nat) : Int) else some (placeE (ps.getD i zP).f1 (ps.getD i zP).f2, (i : Int))) else some (nmE ((ps.take i).map (·.f0)) (ps.getD i zP).f0, (i : Int)) := fun i hi k => by
  simp only [net_Check.l0]
  rw [if_pos (by omega), if_pos (by omega), rdP, addM_ev (hlen i (by omega)), wrap_up hi (by omega)]
  simp only [Option.bind_some, net_checkPlace.f]
  by_cases h0 : nmE ((ps.take i).map (·.f0)) (ps.getD i zP).f0 = 0
  ·rw [if_pos h0, if_pos h0, if_pos h0, ← take_map_succ ps (fun t => t.f0) zP hi]
  ·rw [if_neg h0, if_neg h0]
 have h := Ev_first (L := fun k i => net_Check.l0 k ps ts ((ps.take i).map (·.f0)) (i : Int)) (n := ps.length) (pF ps) (e := first (tF ps ts) (0, 0) ts.length)
  (fun i hi hf r hr => Ev.step (stp i hi) (by
   have hz : plR ps i = 0 := of_ite_none hf
   by_cases h0 : nmE ((ps.take i).map (·.f0)) (ps.getD i zP).f0 = 0
   ·unfold plR at hz
    rw [if_neg (by simpa using h0)] at hz
    simp only [h0, hz, ↓reduceIte]
    exact hr
   ·unfold plR at hz
    rw [if_pos h0] at hz
    exact absurd hz h0))
  (fun i r hi hf => Ev.step (stp i hi) (by
   obtain ⟨hz, rfl⟩ := of_ite_some hf
   by_cases h0 : nmE ((ps.take i).map (·.f0)) (ps.getD i zP).f0 = 0
   ·have e : plR ps i = placeE (ps.getD i zP).f1 (ps.getD i zP).f2 := by unfold plR; rw [if_neg (by simpa using h0)]
    rw [e] at hz ⊢
    simp only [h0, hz, ↓reduceIte]
    exact Ev.some _
   ·have e : plR ps i = nmE ((ps.take i).map (·.f0)) (ps.getD i zP).f0 := by unfold plR; rw [if_pos h0]
    rw [e]
    simp only [h0, ↓reduceIte]
    exact Ev.some _))
  (by
   refine Ev.step (f := fun k => net_Check.l1 k ps ts (ps.map (·.f0)) 0) (fun k => ?_) (check_ts hp ht hT)
   simp only [net_Check.l0]
   rw [if_neg (by omega), List.take_length])
 simpa using h
theorem check_ev (nm : ByteArray) {ps : List Pla} {ts : List Tra} (hT : Thin ts) : Ev (fun k => net_Check.f k nm ps ts) (checkS nm ps ts) := by
 unfold net_Check.f checkS
 by_cases h1 : nameB nm = true
 ·by_cases h2 : (ps.length : Int) < 1 ∨ (24 : Int) < (ps.length : Int) ∨ (24 : Int) < (ts.length : Int)
  ·simp only [h1, h2, ↓reduceIte]; exact Ev.some _
  ·simp only [h1, h2, ↓reduceIte]
   exact check_ps (by omega) (by omega) hT
 ·simp only [h1]; exact Ev.some _
theorem valid_ev (nm : ByteArray) {ps : List Pla} {ts : List Tra} (hT : Thin ts) : Ev (fun k => net_valid.f k nm ps ts) (validS nm ps ts) := by
 unfold net_valid.f
 exact Ev.bind (check_ev nm hT) (Ev.some _)
def weightS (l : List Ac) (p : Int) : Int := first (fun i => if (l.getD i zA).f0 = p then some (l.getD i zA).f1 else none) 0 l.length
def plainP (ps : List Pla) (e : Bool) : Bool := first (fun i => if (ps.getD i zP).f2 ≠ 0 then some false else none) e ps.length
def plainT (ts : List Tra) (e : Bool) : Bool := first (fun i => if ((ts.getD i zT).f3.length : Int) > 0 ∨ (ts.getD i zT).f4 ≠ 0 then some false else none) e ts.length
def plainS (v : Bool) (ps : List Pla) (ts : List Tra) : Bool := plainT ts (plainP ps v)
theorem plainP_eq (ps : List Pla) (e : Bool) : plainP ps e = if ∃ i, i < ps.length ∧ (ps.getD i zP).f2 ≠ 0 then false else e := first_any _ _ _ _
theorem plainT_eq (ts : List Tra) (e : Bool) : plainT ts e = if ∃ i, i < ts.length ∧ (((ts.getD i zT).f3.length : Int) > 0 ∨ (ts.getD i zT).f4 ≠ 0) then false else e := first_any _ _ _ _
theorem plain_swap (v : Bool) (ps : List Pla) (ts : List Tra) : plainS v ps ts = if v = true then plainP ps (plainT ts true) else false := by
 unfold plainS
 rw [plainT_eq, plainP_eq, plainP_eq, plainT_eq]
 cases v <;> by_cases c1 : ∃ i, i < ps.length ∧ (ps.getD i zP).f2 ≠ 0 <;> by_cases c2 : ∃ i, i < ts.length ∧ (((ts.getD i zT).f3.length : Int) > 0 ∨ (ts.getD i zT).f4 ≠ 0) <;> simp only [c1, c2, if_true, if_false, Bool.false_eq_true, ite_self]
theorem ext_getD {α : Type} (z : α) {a b : List α} (hl : a.length = b.length) (h : ∀ i, i < a.length → a.getD i z = b.getD i z) : a = b := by
 refine List.ext_getElem hl (fun i h1 h2 => ?_)
 have := h i h1
 rw [List.getD_eq_getElem?_getD, List.getD_eq_getElem?_getD, List.getElem?_eq_getElem h1, List.getElem?_eq_getElem h2] at this
 exact this
structure ValidN (nm : ByteArray) (ps : List Pla) (ts : List Tra) : Prop where
 n : nameB nm = true
 p0 : 1 ≤ ps.length
 p : ps.length ≤ 24
 t : ts.length ≤ 24
 pl : ∀ i, i < ps.length → plR ps i = 0
 tr : ∀ i, i < ts.length → trR ps ts i = 0
theorem validS_iff {nm : ByteArray} {ps : List Pla} {ts : List Tra} : validS nm ps ts = true ↔ ValidN nm ps ts := by
 unfold validS checkS
 constructor
 ·intro h
  by_cases h1 : nameB nm = true
  ·rw [if_pos h1] at h
   by_cases h2 : (ps.length : Int) < 1 ∨ (24 : Int) < (ps.length : Int) ∨ (24 : Int) < (ts.length : Int)
   ·rw [if_pos h2] at h; simp at h
   ·rw [if_neg h2] at h
    rcases first_cases (pF ps) (first (tF ps ts) (0, 0) ts.length) ps.length with ⟨a1, a2⟩ | ⟨j, a1, a2, _⟩
    ·rw [a1] at h
     rcases first_cases (tF ps ts) ((0 : Int), (0 : Int)) ts.length with ⟨b1, b2⟩ | ⟨j, b1, b2, _⟩
     ·exact ⟨h1, by omega, by omega, by omega, fun i hi => of_ite_none (a2 i hi), fun i hi => of_ite_none (b2 i hi)⟩
     ·obtain ⟨c1, c2⟩ := of_ite_some b2
      rw [← c2] at h
      exact absurd (beq_iff_eq.1 h) c1
    ·obtain ⟨c1, c2⟩ := of_ite_some a2
     rw [← c2] at h
     exact absurd (beq_iff_eq.1 h) c1
  ·rw [if_neg h1] at h; simp at h
 ·rintro ⟨h1, h2, h3, h4, h5, h6⟩
  rw [if_pos h1, if_neg (by omega), first_all (fun j hj => by unfold pF; rw [if_pos (h5 j hj)]), first_all (fun j hj => by unfold tF; rw [if_pos (h6 j hj)])]
  rfl
section
variable {nm : ByteArray} {ps : List Pla} {ts : List Tra} (h : ValidN nm ps ts)
include h
theorem ValidN.trName {i : Nat} (hi : i < ts.length) : nmE (ps.map (·.f0) ++ (ts.take i).map (·.f0)) (ts.getD i zT).f0 = 0 ∧ transE (ps.length : Int) (ts.getD i zT) = 0 := by
 have := h.tr i hi
 unfold trR at this
 by_cases c : nmE (ps.map (·.f0) ++ (ts.take i).map (·.f0)) (ts.getD i zT).f0 = 0
 · rw [if_neg (by simpa using c)] at this; exact ⟨c, this⟩
 · rw [if_pos c] at this; exact absurd this c
theorem ValidN.arcs {i : Nat} (hi : i < ts.length) : (0 ≤ (ts.getD i zT).f4 ∧ (ts.getD i zT).f4 ≤ 9) ∧ arcsE (ps.length : Int) (ts.getD i zT).f1 = 0 ∧ arcsE (ps.length : Int) (ts.getD i zT).f2 = 0 ∧ arcsE (ps.length : Int) (ts.getD i zT).f3 = 0 := by
 have := (h.trName hi).2
 unfold transE at this
 by_cases c : (ts.getD i zT).f4 < 0 ∨ (ts.getD i zT).f4 > 9
 ·rw [if_pos c] at this; exact absurd this (by decide)
 ·rw [if_neg c] at this
  by_cases c1 : arcsE (ps.length : Int) (ts.getD i zT).f1 = 0
  ·rw [if_neg (by simpa using c1)] at this
   by_cases c2 : arcsE (ps.length : Int) (ts.getD i zT).f2 = 0
   ·rw [if_neg (by simpa using c2)] at this; exact ⟨by omega, c1, c2, this⟩
   ·rw [if_pos c2] at this; exact absurd this c2
  ·rw [if_pos c1] at this; exact absurd this c1
end
theorem arcE_none {np : Int} {l : List Ac} {i : Nat} (h : arcE np l i = none) : 0 ≤ (l.getD i zA).f0 ∧ (l.getD i zA).f0 < np ∧ (0 < i → (l.getD (i - 1) zA).f0 < (l.getD i zA).f0) ∧ 1 ≤ (l.getD i zA).f1 ∧ (l.getD i zA).f1 ≤ 99 := by
 unfold arcE at h
 by_cases c1 : (l.getD i zA).f0 < 0 ∨ (l.getD i zA).f0 ≥ np
 ·rw [if_pos c1] at h; cases h
 ·rw [if_neg c1] at h
  by_cases c2 : 0 < i ∧ (l.getD (i - 1) zA).f0 ≥ (l.getD i zA).f0
  ·rw [if_pos c2] at h; cases h
  ·rw [if_neg c2] at h
   by_cases c3 : (l.getD i zA).f1 < 1 ∨ (l.getD i zA).f1 > 99
   ·rw [if_pos c3] at h; cases h
   ·exact ⟨by omega, by omega, fun hi => Int.not_le.1 fun hc => c2 ⟨hi, hc⟩, by omega, by omega⟩
theorem arcE_some {np : Int} {l : List Ac} {i : Nat} {r : Int} (h : arcE np l i = some r) : r ≠ 0 := by
 unfold arcE at h
 by_cases c1 : (l.getD i zA).f0 < 0 ∨ (l.getD i zA).f0 ≥ np
 ·rw [if_pos c1] at h; cases h; decide
 ·rw [if_neg c1] at h
  by_cases c2 : 0 < i ∧ (l.getD (i - 1) zA).f0 ≥ (l.getD i zA).f0
  ·rw [if_pos c2] at h; cases h; decide
  ·rw [if_neg c2] at h
   by_cases c3 : (l.getD i zA).f1 < 1 ∨ (l.getD i zA).f1 > 99
   ·rw [if_pos c3] at h; cases h; decide
   ·rw [if_neg c3] at h; cases h
theorem arcsE_zero {np : Int} {l : List Ac} (h : arcsE np l = 0) : ∀ i, i < l.length → 0 ≤ (l.getD i zA).f0 ∧ (l.getD i zA).f0 < np ∧ (0 < i → (l.getD (i - 1) zA).f0 < (l.getD i zA).f0) ∧ 1 ≤ (l.getD i zA).f1 ∧ (l.getD i zA).f1 ≤ 99 := by
 intro i hi
 unfold arcsE at h
 rcases first_cases (arcE np l) 0 l.length with ⟨_, h2⟩ | ⟨j, _, h2, _⟩
 ·exact arcE_none (h2 i hi)
 ·rw [h] at h2
  exact absurd rfl (arcE_some h2)
theorem arcs_lt {np : Int} {l : List Ac} (h : arcsE np l = 0) {i j : Nat} (hij : i < j) (hj : j < l.length) : (l.getD i zA).f0 < (l.getD j zA).f0 := by
 obtain ⟨d, rfl⟩ : ∃ d, j = i + 1 + d := ⟨j - (i + 1), by omega⟩
 induction d with
 | zero => have := (arcsE_zero h (i + 1) hj).2.2.1 (by omega); simpa using this
 | succ d ih =>
  have h1 := ih (by omega) (by omega)
  have h2 := (arcsE_zero h (i + 1 + (d + 1)) hj).2.2.1 (by omega)
  rw [show i + 1 + (d + 1) - 1 = i + 1 + d by omega] at h2
  omega
theorem weight_nn {np : Int} {l : List Ac} (h : arcsE np l = 0) (p : Int) : 0 ≤ weightS l p ∧ weightS l p ≤ 99 := by
 unfold weightS
 rcases first_cases (fun i => if (l.getD i zA).f0 = p then some (l.getD i zA).f1 else none) 0 l.length with ⟨h1, h2⟩ | ⟨j, h1, h2, _⟩
 ·rw [h1]; decide
 ·by_cases c : (l.getD j zA).f0 = p
  ·simp only [c, if_true] at h2
   have := arcsE_zero h j h1
   rw [← Option.some.inj h2]; omega
  ·simp only [c, if_false] at h2; cases h2
def okN (k : Int) : Bool := if k = -1 then true else if k < 0 ∨ k > 1048576 then false else true
theorem okN_iff {k : Int} : okN k = true ↔ k = -1 ∨ (0 ≤ k ∧ k ≤ 1048576) := by
 unfold okN
 by_cases h : k = -1
 ·rw [if_pos h]; exact ⟨fun _ => Or.inl h, fun _ => rfl⟩
 ·rw [if_neg h]
  by_cases c : k < 0 ∨ k > 1048576
  ·rw [if_pos c]; exact ⟨fun h => (by cases h), fun h2 => by omega⟩
  ·rw [if_neg c]; exact ⟨fun _ => by omega, fun _ => rfl⟩
def moreS (a b : Int) : Bool := if a = -1 ∨ b = -1 then decide (a = -1 ∧ b ≠ -1) else decide (a > b)
theorem moreS_self (a : Int) : moreS a a = false := by
 unfold moreS
 by_cases h : a = -1
 · rw [if_pos (Or.inl h)]; exact dec_f (fun h2 => h2.2 h)
 · rw [if_neg (by omega)]; exact dec_f (by omega)
def le1 (a b : Int) : Prop := b = -1 ∨ (a ≠ -1 ∧ b ≠ -1 ∧ a ≤ b)
theorem moreS_iff {a b : Int} : moreS a b = false ↔ le1 a b := by
 unfold moreS le1
 by_cases h : a = -1 ∨ b = -1
 ·rw [if_pos h]
  by_cases c : a = -1 ∧ b ≠ -1
  ·rw [dec_t c]; exact ⟨fun h => (by cases h), fun h2 => by omega⟩
  ·rw [dec_f c]; exact ⟨fun _ => by omega, fun _ => rfl⟩
 ·rw [if_neg h]
  by_cases c : a > b
  ·rw [dec_t c]; exact ⟨fun h => (by cases h), fun h2 => by omega⟩
  ·rw [dec_f c]; exact ⟨fun _ => by omega, fun _ => rfl⟩
structure Om (n : Nat) (m : List Int) : Prop where
 len : m.length = n
 ok : ∀ i, i < n → okN (m.getD i 0) = true
theorem Om.cases {n : Nat} {m : List Int} (h : Om n m) {i : Nat} (hi : i < n) : m.getD i 0 = -1 ∨ (0 ≤ m.getD i 0 ∧ m.getD i 0 ≤ 1048576) := okN_iff.1 (h.ok i hi)
def omS (m : List Int) (n : Int) : Bool := if (m.length : Int) = n then first (fun i => if okN (m.getD i 0) = true then none else some false) true m.length else false
theorem omS_iff {m : List Int} {n : Nat} : omS m (n : Int) = true ↔ Om n m := by
 unfold omS
 by_cases h : (m.length : Int) = (n : Int)
 ·have hl : m.length = n := by omega
  rw [if_pos h]
  rcases first_cases (fun i => if okN (m.getD i 0) = true then none else some false) true m.length with ⟨h1, h2⟩ | ⟨j, h1, h2, _⟩
  ·rw [h1]
   exact ⟨fun _ => ⟨hl, fun i hi => of_ite_none (h2 i (by omega))⟩, fun _ => rfl⟩
  ·obtain ⟨c1, c2⟩ := of_ite_some h2
   rw [← c2]
   exact ⟨fun h => (by cases h), fun h3 => absurd (h3.ok j (by omega)) c1⟩
 ·rw [if_neg h]
  exact ⟨fun h => (by cases h), fun h3 => absurd (by rw [h3.len]) h⟩
def Le (a b : List Int) : Prop := ∀ i, i < a.length → le1 (a.getD i 0) (b.getD i 0)
def leqS (a b : List Int) : Bool := if omS a (b.length : Int) = true then if omS b (b.length : Int) = true then first (fun i => if moreS (a.getD i 0) (b.getD i 0) = true then some false else none) true a.length else false else false
def accS (low high : List Int) : List Int := if leqS low high = true then mr high.length (fun i => if moreS (high.getD i 0) (low.getD i 0) = true then -1 else high.getD i 0) else high
theorem accS_len (low high : List Int) : (accS low high).length = high.length := by
 unfold accS
 by_cases h : leqS low high = true
 · rw [if_pos h, mr_len]
 · rw [if_neg h]
theorem accS_get (low high : List Int) {i : Nat} (hi : i < high.length) : (accS low high).getD i 0 = if leqS low high = true ∧ moreS (high.getD i 0) (low.getD i 0) = true then -1 else high.getD i 0 := by
 unfold accS
 by_cases h : leqS low high = true
 ·rw [if_pos h, mr_get _ _ hi]
  by_cases c : moreS (high.getD i 0) (low.getD i 0) = true
  ·rw [if_pos c, if_pos ⟨h, c⟩]
  ·rw [if_neg c, if_neg (fun x => c x.2)]
 ·rw [if_neg h, if_neg (fun x => h x.1)]
theorem accS_or (low high : List Int) {i : Nat} (hi : i < high.length) : (accS low high).getD i 0 = -1 ∨ (accS low high).getD i 0 = high.getD i 0 := by
 rw [accS_get low high hi]
 by_cases c : leqS low high = true ∧ moreS (high.getD i 0) (low.getD i 0) = true
 · rw [if_pos c]; exact Or.inl rfl
 · rw [if_neg c]; exact Or.inr rfl
theorem le1_refl (a : Int) : le1 a a := moreS_iff.1 (moreS_self a)
theorem le1_trans {a b c : Int} (h : le1 a b) (k : le1 b c) : le1 a c := by unfold le1 at *; omega
theorem Le.refl (a : List Int) : Le a a := fun _ _ => le1_refl _
theorem Le.trans {a b c : List Int} (h : Le a b) (k : Le b c) (hl : a.length = b.length) : Le a c := fun i hi => le1_trans (h i hi) (k i (by omega))
theorem accS_ge (low high : List Int) : Le high (accS low high) := fun i hi => by
 rcases accS_or low high hi with e | e
 · rw [e]; exact Or.inl rfl
 · rw [e]; exact le1_refl _
def Fin (m : List Int) : Prop := ∀ i, i < m.length → m.getD i 0 ≠ -1
theorem ext0 {a b : List Int} (hl : a.length = b.length) (h : ∀ i, i < a.length → a.getD i 0 = b.getD i 0) : a = b := ext_getD 0 hl h
theorem accS_cases (low high : List Int) : accS low high = high ∨ (¬ Fin (accS low high) ∧ leqS low high = true ∧ ∃ i, i < high.length ∧ moreS (high.getD i 0) (low.getD i 0) = true) := by
 by_cases h : leqS low high = true
 ·by_cases c : ∃ i, i < high.length ∧ moreS (high.getD i 0) (low.getD i 0) = true
  ·obtain ⟨i, hi, hc⟩ := c
   refine Or.inr ⟨fun hf => hf i (by rw [accS_len]; exact hi) ?_, h, i, hi, hc⟩
   rw [accS_get low high hi, if_pos ⟨h, hc⟩]
  ·refine Or.inl (ext0 (accS_len _ _) (fun i hi => ?_))
   rw [accS_len] at hi
   rw [accS_get low high hi, if_neg (fun x => c ⟨i, hi, x.2⟩)]
 ·left; unfold accS; rw [if_neg h]
def Can (t : Tra) (m : List Int) : Prop := ∀ p, p < m.length → m.getD p 0 = -1 ∨ weightS t.f1 (p : Int) ≤ m.getD p 0
def canS (t : Tra) (m : List Int) : Bool := first (fun p => if m.getD p 0 ≠ -1 ∧ m.getD p 0 < weightS t.f1 (p : Int) then some false else none) true m.length
theorem canS_iff {t : Tra} {m : List Int} : canS t m = true ↔ Can t m := by
 unfold canS
 rw [first_any]
 constructor
 ·intro h p hp
  by_cases c : m.getD p 0 = -1 ∨ weightS t.f1 (p : Int) ≤ m.getD p 0
  ·exact c
  ·rw [if_pos ⟨p, hp, by omega⟩] at h; cases h
 ·intro h
  rw [if_neg]
  rintro ⟨p, hp, h2⟩
  have := h p hp
  omega
def movS (t : Tra) (m : List Int) : List Int := mr m.length (fun p => if m.getD p 0 = -1 then -1 else m.getD p 0 - weightS t.f1 (p : Int) + weightS t.f2 (p : Int))
theorem movS_len (t : Tra) (m : List Int) : (movS t m).length = m.length := mr_len _ _
theorem movS_get (t : Tra) (m : List Int) {p : Nat} (hp : p < m.length) : (movS t m).getD p 0 = if m.getD p 0 = -1 then -1 else m.getD p 0 - weightS t.f1 (p : Int) + weightS t.f2 (p : Int) := mr_get _ _ hp
def Fits (m : List Int) : Prop := ∀ p, p < m.length → m.getD p 0 ≤ 1048576
def fitsS (v : Bool) (ps : List Pla) (ts : List Tra) (m : List Int) : Bool := if plainS v ps ts = true then omS m (ps.length : Int) else false
def enabS (v : Bool) (ps : List Pla) (ts : List Tra) (m : List Int) : List Int := if fitsS v ps ts m = true then ((List.range ts.length).filter (fun t => canS (ts.getD t zT) m)).map (fun t : Nat => (t : Int)) else []
theorem Can.mono {t : Tra} {a b : List Int} (h : Can t a) (hl : a.length = b.length) (ha : Fin a) (k : Le a b) : Can t b := fun p hp => by
 have h1 := h p (by omega)
 have h2 := k p (by omega)
 have h3 := ha p (by omega)
 unfold le1 at h2
 omega
theorem movS_mono {t : Tra} {a b : List Int} (hl : a.length = b.length) (hc : Can t a) {n1 : Int} (h1 : arcsE n1 t.f1 = 0) (h2 : arcsE n1 t.f2 = 0) (k : Le a b) : Le (movS t a) (movS t b) := fun p hp => by
 rw [movS_len] at hp
 rw [movS_get t a hp, movS_get t b (by omega)]
 have h := k p hp
 have c := hc p hp
 have w1 := weight_nn h1 (p : Int)
 have w2 := weight_nn h2 (p : Int)
 unfold le1 at h ⊢
 by_cases ea : a.getD p 0 = -1
 ·rw [if_pos ea]
  by_cases eb : b.getD p 0 = -1
  ·rw [if_pos eb]; exact Or.inl rfl
  ·omega
 ·rw [if_neg ea]
  by_cases eb : b.getD p 0 = -1
  ·rw [if_pos eb]; exact Or.inl rfl
  ·rw [if_neg eb]; right; omega
def Lt (a b : List Int) : Prop := ∃ i, i < a.length ∧ (∀ j, j < i → a.getD j 0 = b.getD j 0) ∧ moreS (b.getD i 0) (a.getD i 0) = true
theorem more_iff {a b : Int} : moreS a b = true ↔ (a = -1 ∧ b ≠ -1) ∨ (a ≠ -1 ∧ b ≠ -1 ∧ b < a) := by
 unfold moreS
 by_cases h : a = -1 ∨ b = -1
 ·rw [if_pos h]
  exact ⟨fun x => Or.inl (of_decide_eq_true x), fun x => decide_eq_true (by omega)⟩
 ·rw [if_neg h]
  exact ⟨fun x => by have := of_decide_eq_true x; omega, fun x => decide_eq_true (by omega)⟩
theorem Lt.trans {a b c : List Int} (h : Lt a b) (k : Lt b c) (hl : a.length = b.length) : Lt a c := by
 obtain ⟨i, h1, h2, h3⟩ := h
 obtain ⟨j, k1, k2, k3⟩ := k
 rw [more_iff] at h3 k3
 by_cases c1 : i < j
 ·refine ⟨i, h1, fun m hm => by rw [h2 m hm, k2 m (by omega)], ?_⟩
  rw [← k2 i c1, more_iff]; exact h3
 ·by_cases c2 : j < i
  ·refine ⟨j, by omega, fun m hm => by rw [h2 m (by omega), k2 m hm], ?_⟩
   rw [h2 j c2, more_iff]; exact k3
  ·obtain rfl : i = j := by omega
   refine ⟨i, h1, fun m hm => by rw [h2 m hm, k2 m hm], ?_⟩
   rw [more_iff]; omega
def keepS (a : List (List Int)) (m : List Int) : Bool := if omS m (m.length : Int) = true then if a.length = 0 ∨ (a.getD 0 []).length = m.length then true else false else false
def conS : List (List Int) → List (List Int) → List (List Int)
 | a, [] => a
 | a, m :: r => conS (if keepS a m = true then a ++ [m] else a) r
def Alike (n : Nat) (l : List (List Int)) : Prop := ∀ x ∈ l, Om n x
theorem Alike.get {n : Nat} {l : List (List Int)} (h : Alike n l) {i : Nat} (hi : i < l.length) : Om n (l.getD i []) := h _ (getD_mem l [] hi)
theorem mvalid_one (x : Int) : Ev (fun k => marking_Valid.f k [x] 1) (if x < 0 ∨ x > 1048576 then false else true) := by
 refine Ev.stepn 2 (f := fun _ => some (if x < 0 ∨ x > 1048576 then false else true)) (fun k => ?_) (Ev.some _)
 have e : rd [x] 0 = x := rfl
 have w : wrap64 (0 + 1) = 1 := by rw [wrap_ok (by omega) (by omega)]; rfl
 simp only [marking_Valid.f, marking_Valid.l0, List.length_singleton, Int.ofNat_one, Int.natCast_one, e, w, ↓reduceIte, Int.reduceLT, Int.reduceLE, Int.lt_irrefl]
 by_cases c : x < 0
 ·rw [if_pos c, if_pos (Or.inl c)]
 ·rw [if_neg c]
  by_cases d : x > 1048576
  ·rw [if_pos d, if_pos (Or.inr d)]
  ·rw [if_neg d, if_neg (by omega)]
theorem omvalid_ev (m : List Int) (n : Int) (hm : m.length ≤ 17592186043904) : Ev (fun k => omega_Valid.f k m n) (omS m n) := by
 unfold omega_Valid.f omS
 by_cases h : (m.length : Int) = n
 ·rw [if_pos h]
  simp only [h, ↓reduceIte]
  rw [← h]
  have step : ∀ (i : Nat), i < m.length → ∀ r, ((if okN (m.getD i 0) = true then Ev (fun k => omega_Valid.l0 k m (m.length : Int) ((i + 1 : Nat) : Int)) r else r = false)) → Ev (fun k => omega_Valid.l0 k m (m.length : Int) (i : Int)) r := by
   intro i hi r hr
   refine Ev.up ?_
   simp only [omega_Valid.l0, lt_int hi, nn, ↓reduceIte, rd_nat, wrap_up hi (by omega : m.length ≤ 9223372036854775807)]
   unfold okN at hr
   by_cases c : m.getD i 0 = -1
   ·simp only [c, ↓reduceIte] at hr ⊢
    exact hr
   ·simp only [c, ↓reduceIte] at hr ⊢
    refine Ev.bind (mvalid_one _) ?_
    by_cases d : m.getD i 0 < 0 ∨ m.getD i 0 > 1048576
    ·simp only [d, ↓reduceIte, Bool.false_eq_true] at hr ⊢
     rw [hr]; exact Ev.some _
    ·simp only [d, ↓reduceIte, Bool.false_eq_true] at hr ⊢
     exact hr
  refine Ev_first (L := fun k i => omega_Valid.l0 k m (m.length : Int) (i : Int)) (fun i => if okN (m.getD i 0) = true then none else some false) (fun i hi hp r hr => step i hi r ?_) (fun i r hi hp => step i hi r ?_) (Ev.one (fun k => by simp only [omega_Valid.l0]; rw [if_neg (by omega)]))
  ·rw [if_pos (of_ite_none hp)]; exact hr
  ·obtain ⟨h1, h2⟩ := of_ite_some hp
   rw [if_neg h1]; exact h2.symm
 ·simp only [h, ↓reduceIte]
  exact Ev.some _
theorem rdL (xs : List (List Int)) (i : Nat) : rd_L11 xs (i : Int) = xs.getD i [] := by simp [rd_L11]
theorem rdL0 (xs : List (List Int)) : rd_L11 xs 0 = xs.getD 0 [] := rdL xs 0
theorem conS_snoc (m : List Int) : ∀ (r a : List (List Int)), conS a (r ++ [m]) = if keepS (conS a r) m = true then conS a r ++ [m] else conS a r
 | [], a => rfl
 | x :: r, a => by
  rw [List.cons_append]
  exact conS_snoc m r (if keepS a x = true then a ++ [x] else a)
theorem take_next {α : Type} (l : List α) (z : α) {i : Nat} (h : i < l.length) : l.take (i + 1) = l.take i ++ [l.getD i z] := by
 rw [List.take_succ_eq_append_getElem h, List.getD_eq_getElem?_getD, List.getElem?_eq_getElem h]; rfl
theorem conS_next (l : List (List Int)) {i : Nat} (h : i < l.length) : conS [] (l.take (i + 1)) = if keepS (conS [] (l.take i)) (l.getD i []) = true then conS [] (l.take i) ++ [l.getD i []] else conS [] (l.take i) := by
 rw [take_next l [] h, conS_snoc]
theorem conS_len : ∀ (r a : List (List Int)), (conS a r).length ≤ a.length + r.length
 | [], a => by unfold conS; omega
 | x :: r, a => by
  have h := conS_len r (if keepS a x = true then a ++ [x] else a)
  have e : (if keepS a x = true then a ++ [x] else a).length ≤ a.length + 1 := by
   split
   ·simp
   ·omega
  have e2 : conS a (x :: r) = conS (if keepS a x = true then a ++ [x] else a) r := rfl
  rw [e2, List.length_cons]; omega
theorem conS_sub : ∀ (r a : List (List Int)) (x : List Int), x ∈ conS a r → x ∈ a ∨ x ∈ r
 | [], a, x, h => Or.inl h
 | y :: r, a, x, h => by
  rcases conS_sub r _ x h with h | h
  ·split at h
   ·rcases List.mem_append.1 h with h | h
    ·exact Or.inl h
    ·rw [List.mem_singleton.1 h]; exact Or.inr (List.mem_cons_self ..)
   ·exact Or.inl h
  ·exact Or.inr (List.mem_cons_of_mem _ h)
theorem keepS_eq (a : List (List Int)) (m : List Int) : keepS a m = if omS m (m.length : Int) = true then (if a.length = 0 then true else decide ((a.getD 0 []).length = m.length)) else false := by
 unfold keepS
 by_cases h : omS m (m.length : Int) = true
 ·rw [if_pos h, if_pos h]
  by_cases c : a.length = 0
  ·rw [if_pos c, if_pos (Or.inl c)]
  ·rw [if_neg c]
   by_cases d : (a.getD 0 []).length = m.length
   ·rw [if_pos (Or.inr d), dec_t d]
   ·rw [if_neg (fun x => x.elim c d), dec_f d]
 ·rw [if_neg h, if_neg h]
theorem refom_ev (m : List Int) (n : Int) (hm : m.length ≤ 17592186043904) : Ev (fun k => r05_Valid.f k m n) (omS m n) := by
 unfold r05_Valid.f omS
 by_cases h : (m.length : Int) = n
 ·simp only [h, ↓reduceIte]
  have e : ∀ i, (if okN (m.getD i 0) = true then none else some false : Option Bool) = if m.getD i 0 = -1 then none else if m.getD i 0 < 0 then some false else if m.getD i 0 > 1048576 then some false else none := by
   intro i
   unfold okN
   by_cases c : m.getD i 0 = -1
   ·rw [if_pos c, if_pos c]; rfl
   ·rw [if_neg c, if_neg c]
    by_cases d : m.getD i 0 < 0
    ·rw [if_pos (Or.inl d), if_pos d]; rfl
    ·rw [if_neg d]
     by_cases d2 : m.getD i 0 > 1048576
     ·rw [if_pos (Or.inr d2), if_pos d2]; rfl
     ·rw [if_neg (show ¬ (m.getD i 0 < 0 ∨ m.getD i 0 > 1048576) by omega), if_neg d2]; rfl
  refine Ev_loop (L := fun k i => r05_Valid.l0 k m (i : Int)) 1 _ (fun k i hi => ?_) (Ev.one (fun k => by simp only [r05_Valid.l0]; rw [if_neg (by omega)]))
  simp only [e]
  simp only [r05_Valid.l0, lt_int hi, nn, ↓reduceIte, rd_nat, wrap_up hi (by omega : m.length ≤ 9223372036854775807)]
  by_cases c : m.getD i 0 = -1
  ·simp only [c, ↓reduceIte]; rfl
  ·by_cases d : m.getD i 0 < 0
   ·simp only [c, d, ↓reduceIte]; rfl
   ·by_cases d2 : m.getD i 0 > 1048576
    ·simp only [c, d, d2, ↓reduceIte]; rfl
    ·simp only [c, d, d2, ↓reduceIte]; rfl
 ·simp only [h, ↓reduceIte]; exact Ev.some _
theorem same04_ev (a b : List Int) (ha : a.length ≤ 17592186043904) : Ev (fun k => r04_Same.f k a b) (decide (a = b)) := by
 unfold r04_Same.f
 by_cases h : (a.length : Int) = (b.length : Int)
 ·simp only [h, ↓reduceIte]
  have hl : a.length = b.length := by omega
  have := Ev_loop (L := fun k i => r04_Same.l0 k a b (i : Int)) (n := a.length) 1 (fun i => if a.getD i 0 = b.getD i 0 then none else some false) (e := true) (fun k i hi => by
   simp only [r04_Same.l0, lt_int hi, nn, ↓reduceIte, rd_nat, lt_int (show i < b.length by omega), wrap_up hi (by omega : a.length ≤ 9223372036854775807)]
   by_cases c : a.getD i 0 = b.getD i 0
   ·simp only [c, ↓reduceIte]; rfl
   ·simp only [c, ↓reduceIte]; rfl) (Ev.one (fun k => by simp only [r04_Same.l0]; rw [if_neg (by omega)]))
  refine Eq.mp ?_ this
  congr 1
  rcases first_cases (fun i => if a.getD i 0 = b.getD i 0 then none else some false) true a.length with ⟨h1, h2⟩ | ⟨j, h1, h2, _⟩
  ·rw [h1, decide_eq_true]
   exact ext_getD 0 hl (fun i hi => of_ite_none (h2 i hi))
  ·obtain ⟨c1, c2⟩ := of_ite_some h2
   rw [← c2, decide_eq_false]
   rintro rfl; exact c1 rfl
 ·simp only [h, ↓reduceIte]
  rw [decide_eq_false (by rintro rfl; exact h rfl)]
  exact Ev.some _
theorem refcon_ev (l : List (List Int)) (hl : l.length ≤ 1000000) (hr : ∀ x ∈ l, x.length ≤ 17592186043904) : Ev (fun k => r05_Considered.f k l) (conS [] l) := by
 unfold r05_Considered.f
 refine Ev_st (L := fun k s i => r05_Considered.l0 k l s i) (n := l.length) (fun i => conS [] (l.take i)) (fun i hi hs => ?_) (Ev.one (fun k => by simp only [r05_Considered.l0, Int.lt_irrefl, ↓reduceIte, List.take_length]))
 have hlen := conS_len (l.take i) []
 rw [List.length_take, List.length_nil] at hlen
 rw [conS_next l hi, keepS_eq] at hs
 generalize conS [] (l.take i) = a at hs hlen ⊢
 have h5 : a.length < 5864062014805 := by omega
 refine Ev.up ?_
 simp only [r05_Considered.l0, lt_int hi, nn, ↓reduceIte, rdL, rdL0, wrap_up hi (by omega : l.length ≤ 9223372036854775807)]
 refine Ev.bind (refom_ev _ _ (hr _ (getD_mem l [] hi))) ?_
 by_cases c : omS (l.getD i []) ((l.getD i []).length : Int) = true
 ·simp only [c, ↓reduceIte] at hs ⊢
  by_cases d : a.length = 0
  ·simp only [d, Int.ofNat_zero, Int.natCast_zero, ↓reduceIte] at hs ⊢
   exact hs
  ·simp only [show ¬ (a.length : Int) = 0 by omega, show (0 : Int) < (a.length : Int) by omega, d, ↓reduceIte] at hs ⊢
   by_cases e : (a.getD 0 []).length = (l.getD i []).length
   ·simp only [show ((l.getD i []).length : Int) = ((a.getD 0 []).length : Int) by omega, e, h5, decide_true, ↓reduceIte] at hs ⊢
    exact hs
   ·simp only [show ¬ ((l.getD i []).length : Int) = ((a.getD 0 []).length : Int) by omega, e, decide_false, Bool.false_eq_true, ↓reduceIte] at hs ⊢
    exact hs
 ·simp only [c, Bool.false_eq_true, ↓reduceIte] at hs ⊢
  exact hs
def stp (a m : Int) : Int := if m = -1 ∨ a = -1 then -1 else if a < m then m else a
structure FewS (l : List (List Int)) : Prop where
 len : l.length ≤ 1000000
 row : ∀ x ∈ l, x.length ≤ 17592186043904
theorem FewS.con {l : List (List Int)} (h : FewS l) : FewS (conS [] l) := by
 refine ⟨?_, fun x hx => ?_⟩
 ·have := conS_len l []
  rw [List.length_nil] at this
  have := h.len
  omega
 ·rcases conS_sub l [] x hx with g | g
  ·cases g
  ·exact h.row x g
theorem FewS.get {l : List (List Int)} (h : FewS l) {i : Nat} (hi : i < l.length) : (l.getD i []).length ≤ 17592186043904 := h.row _ (getD_mem l [] hi)
theorem elements_ev {l : List (List Int)} (h : FewS l) : Ev (fun k => mincover_elements.f k l) (conS [] l) := by
 have hl := h.len
 unfold mincover_elements.f
 refine Ev_st (L := fun k s i => mincover_elements.l0 k s l (l.length : Int) i) (n := l.length) (fun i => conS [] (l.take i)) (fun i hi hs => ?_) (Ev.one (fun k => by simp only [mincover_elements.l0, Int.lt_irrefl, ↓reduceIte, List.take_length]))
 have hlen := conS_len (l.take i) []
 rw [List.length_take, List.length_nil] at hlen
 rw [conS_next l hi, keepS_eq] at hs
 generalize conS [] (l.take i) = a at hs hlen ⊢
 have h5 : a.length < 5864062014805 := by omega
 refine Ev.up ?_
 simp only [mincover_elements.l0, lt_int hi, nn, ↓reduceIte, rdL, rdL0, wrap_up hi (by omega : l.length ≤ 9223372036854775807)]
 refine Ev.bind (omvalid_ev _ _ (h.get hi)) ?_
 by_cases c : omS (l.getD i []) ((l.getD i []).length : Int) = true
 ·simp only [c, ↓reduceIte] at hs ⊢
  by_cases d : a.length = 0
  ·simp only [d, Int.ofNat_zero, Int.natCast_zero, ↓reduceIte] at hs ⊢
   exact hs
  ·simp only [show ¬ (a.length : Int) = 0 by omega, show (0 : Int) < (a.length : Int) by omega, d, ↓reduceIte] at hs ⊢
   by_cases e : (a.getD 0 []).length = (l.getD i []).length
   ·simp only [show ((a.getD 0 []).length : Int) = ((l.getD i []).length : Int) by omega, e, h5, decide_true, ↓reduceIte] at hs ⊢
    exact hs
   ·simp only [show ¬ ((a.getD 0 []).length : Int) = ((l.getD i []).length : Int) by omega, e, decide_false, Bool.false_eq_true, ↓reduceIte] at hs ⊢
    exact hs
 ·simp only [c, Bool.false_eq_true, ↓reduceIte] at hs ⊢
  exact hs
theorem plain_ev (nm : ByteArray) {ps : List Pla} {ts : List Tra} (hp : ps.length ≤ 1000000) (ht : ts.length ≤ 1000000) (hT : Thin ts) : Ev (fun k => net_Plain.f k nm ps ts) (plainS (validS nm ps ts) ps ts) := by
 have h1 := Ev_loop (L := fun k i => net_Plain.l1 k ps (ps.length : Int) (i : Int) nm ps ts) (n := ps.length) 1 (fun i => if (ps.getD i zP).f2 ≠ 0 then some false else none) (e := validS nm ps ts)
  (fun k i hi => by
   simp only [net_Plain.l1]
   rw [if_pos (by omega), if_pos (by omega), if_pos (by omega), rdP, wrap_up hi (by omega)]
   by_cases c : (ps.getD i zP).f2 = 0
   ·rw [if_pos c, if_neg (by simpa using c)]; rfl
   ·rw [if_neg c, if_pos c]; rfl)
  (Ev.step (f := fun k => (net_valid.f k nm ps ts).bind fun t => some t) (fun k => by simp only [net_Plain.l1]; rw [if_neg (by omega)]) (Ev.bind (valid_ev nm hT) (Ev.some _)))
 exact Ev_loop (L := fun k i => net_Plain.l0 k ts (ts.length : Int) (i : Int) nm ps ts) (n := ts.length) 1 (fun i => if ((ts.getD i zT).f3.length : Int) > 0 ∨ (ts.getD i zT).f4 ≠ 0 then some false else none) (e := plainP ps (validS nm ps ts))
  (fun k i hi => by
   simp only [net_Plain.l0]
   rw [if_pos (by omega), if_pos (by omega), if_pos (by omega), rdT, wrap_up hi (by omega)]
   by_cases c1 : ((ts.getD i zT).f3.length : Int) > 0
   ·rw [if_pos c1, if_pos (Or.inl c1)]; rfl
   ·rw [if_neg c1]
    by_cases c2 : (ts.getD i zT).f4 = 0
    ·rw [if_pos c2, if_neg (fun h => h.elim c1 (fun h => h c2))]; rfl
    ·rw [if_neg c2, if_pos (Or.inr c2)]; rfl)
  (Ev.step (f := fun k => net_Plain.l1 k ps (ps.length : Int) ((0 : Nat) : Int) nm ps ts) (fun k => by simp only [net_Plain.l0]; rw [if_neg (by omega)]; rfl) h1)
theorem filter_len (q : Nat → Bool) (i : Nat) : (((List.range i).filter q).map (fun t : Nat => (t : Int))).length ≤ i := by
 rw [List.length_map]
 exact Nat.le_trans (List.length_filter_le _ _) (by rw [List.length_range]; exact Nat.le_refl _)
theorem filter_next (q : Nat → Bool) (i : Nat) : ((List.range (i + 1)).filter q).map (fun t : Nat => (t : Int)) = if q i = true then ((List.range i).filter q).map (fun t : Nat => (t : Int)) ++ [(i : Int)] else ((List.range i).filter q).map (fun t : Nat => (t : Int)) := by
 rw [filter_range_succ]
 by_cases h : q i = true
 · rw [if_pos h, if_pos h, List.map_append]; rfl
 · rw [if_neg h, if_neg h]
abbrev Nd := S73
abbrev zN : Nd := z73
def ancS (tr : List Nd) : Nat → Int → List Int → List Int
 | 0, _, m => m
 | f + 1, i, m => if i < 0 then m else ancS tr f (tr.getD i.toNat zN).f0 (accS (tr.getD i.toNat zN).f2 m)
theorem ancS_len (tr : List Nd) : ∀ (f : Nat) (i : Int) (m : List Int), (ancS tr f i m).length = m.length
 | 0, _, _ => rfl
 | f + 1, i, m => by
  unfold ancS
  by_cases c : i < 0
  ·rw [if_pos c]
  ·rw [if_neg c, ancS_len tr f, accS_len]
theorem ancS_ge (tr : List Nd) : ∀ (f : Nat) (i : Int) (m : List Int), Le m (ancS tr f i m)
 | 0, _, _ => Le.refl _
 | f + 1, i, m => by
  unfold ancS
  by_cases c : i < 0
  ·rw [if_pos c]; exact Le.refl _
  ·rw [if_neg c]; exact (accS_ge _ _).trans (ancS_ge tr f _ _) (accS_len _ _).symm
theorem not_fin {a b : List Int} (h : ¬ Fin a) (hl : a.length = b.length) (k : Le a b) : ¬ Fin b := fun hb => h fun i hi e => by
 have h1 := k i hi
 have h2 := hb i (by omega)
 unfold le1 at h1
 omega
inductive Up (tr : List Nd) : Nat → Nat → Prop
 | refl (i : Nat) : Up tr i i
 | step {i j a : Nat} (h : (tr.getD i zN).f0 = (j : Int)) (k : Up tr j a) : Up tr i a
theorem ancS_cases (tr : List Nd) : ∀ (f : Nat) (i : Int) (m : List Int), ancS tr f i m = m ∨ (¬ Fin (ancS tr f i m) ∧ 0 ≤ i ∧ ∃ a, Up tr i.toNat a ∧ leqS (tr.getD a zN).f2 m = true ∧ ∃ p, p < m.length ∧ moreS (m.getD p 0) ((tr.getD a zN).f2.getD p 0) = true)
 | 0, _, _ => Or.inl rfl
 | f + 1, i, m => by
  unfold ancS
  by_cases c : i < 0
  ·rw [if_pos c]; exact Or.inl rfl
  ·rw [if_neg c]
   rcases accS_cases (tr.getD i.toNat zN).f2 m with e | ⟨h1, h2, h3⟩
   ·rw [e]
    rcases ancS_cases tr f (tr.getD i.toNat zN).f0 m with e2 | ⟨h1, h0, a, h2, h3⟩
    ·exact Or.inl e2
    ·exact Or.inr ⟨h1, by omega, a, Up.step (by omega) h2, h3⟩
   ·exact Or.inr ⟨not_fin h1 (ancS_len _ _ _ _).symm (ancS_ge _ _ _ _), by omega, i.toNat, Up.refl _, h2, h3⟩
structure TreeOk (ts : List Tra) (n : Nat) (m0 : List Int) (tr : List Nd) : Prop where
 ne : 0 < tr.length
 root : tr.getD 0 zN = ⟨-1, -1, m0, false⟩
 om : ∀ i, i < tr.length → Om n (tr.getD i zN).f2
 up : ∀ i, 0 < i → i < tr.length → ∃ j t : Nat, j < i ∧ (tr.getD i zN).f0 = (j : Int) ∧ (tr.getD i zN).f1 = (t : Int) ∧ t < ts.length ∧ Can (ts.getD t zT) (tr.getD j zN).f2 ∧ Fits (movS (ts.getD t zT) (tr.getD j zN).f2) ∧ (tr.getD i zN).f2 = ancS tr (j + 1) (j : Int) (movS (ts.getD t zT) (tr.getD j zN).f2)
 again : ∀ i, i < tr.length → ((tr.getD i zN).f3 = true ↔ ∃ j, j < i ∧ (tr.getD j zN).f2 = (tr.getD i zN).f2)
def Kids (ts : List Tra) (tr : List Nd) (i : Nat) : Prop := (tr.getD i zN).f3 = false → ∀ t, t < ts.length → Can (ts.getD t zT) (tr.getD i zN).f2 → Fits (movS (ts.getD t zT) (tr.getD i zN).f2) ∧ ∃ j, i < j ∧ j < tr.length ∧ (tr.getD j zN).f0 = (i : Int) ∧ (tr.getD j zN).f1 = (t : Int)
variable {ts : List Tra} {n : Nat} {m0 : List Int} {tr : List Nd}
theorem TreeOk.one (h : Om n m0) : TreeOk ts n m0 [⟨-1, -1, m0, false⟩] := by
 refine ⟨by simp, rfl, fun i hi => ?_, fun i h0 hi => ?_, fun i hi => ?_⟩
 ·obtain rfl : i = 0 := by simp at hi; exact hi
  exact h
 ·simp at hi; omega
 ·obtain rfl : i = 0 := by simp at hi; exact hi
  exact ⟨fun h => by simp at h, fun ⟨j, hj, _⟩ => by omega⟩
theorem TreeOk.firstOf (h : TreeOk ts n m0 tr) : ∀ (i : Nat), i < tr.length → ∃ j, j ≤ i ∧ (tr.getD j zN).f2 = (tr.getD i zN).f2 ∧ (tr.getD j zN).f3 = false := by
 intro i
 induction i using Nat.strongRecOn with
 | _ i ih =>
  intro hi
  cases e : (tr.getD i zN).f3 with
  | false => exact ⟨i, Nat.le_refl _, rfl, e⟩
  | true =>
   obtain ⟨j, h1, h2⟩ := (h.again i hi).1 e
   obtain ⟨x, h3, h4, h5⟩ := ih j h1 (by omega)
   exact ⟨x, by omega, by rw [h4, h2], h5⟩
def Arcs (np : Int) (ts : List Tra) : Prop := ∀ t, t < ts.length → arcsE np (ts.getD t zT).f1 = 0 ∧ arcsE np (ts.getD t zT).f2 = 0
def Cov (tr : List Nd) (m : List Int) : Prop := ∃ i, i < tr.length ∧ Le m (tr.getD i zN).f2
theorem Cov.step {np : Int} (h : TreeOk ts n m0 tr) (ha : Arcs np ts) (hk : ∀ i, i < tr.length → Kids ts tr i) {m : List Int} (hm : m.length = n) (hf : Fin m) (h0 : Cov tr m) {t : Nat} (ht : t < ts.length) (hc : Can (ts.getD t zT) m) : Cov tr (movS (ts.getD t zT) m) := by
 obtain ⟨i, hi, hle⟩ := h0
 obtain ⟨j, h1, h2, h3⟩ := h.firstOf i hi
 rw [← h2] at hle
 have ho := h.om j (by omega)
 have hl : m.length = (tr.getD j zN).f2.length := by rw [hm, ho.len]
 have hc2 := hc.mono hl hf hle
 obtain ⟨_, c, h4, h5, h6, h7⟩ := hk j (by omega) h3 t ht hc2
 obtain ⟨j', t', k1, k2, k3, k4, k5, k6, k7⟩ := h.up c (by omega) h5
 obtain rfl : j' = j := by omega
 obtain rfl : t' = t := by omega
 refine ⟨c, h5, ?_⟩
 rw [k7]
 exact (movS_mono hl hc (ha t' ht).1 (ha t' ht).2 hle).trans (ancS_ge _ _ _ _) (by rw [movS_len, movS_len]; exact hl)
structure Closed (ts : List Tra) (n : Nat) (m0 : List Int) (l : List (List Int)) : Prop where
 first : m0 ∈ l
 om : ∀ m ∈ l, Om n m ∧ Fin m
 next : ∀ m ∈ l, ∀ t, t < ts.length → Can (ts.getD t zT) m → movS (ts.getD t zT) m ∈ l
theorem movS_fin {np : Int} {t : Tra} (h2 : arcsE np t.f2 = 0) {m : List Int} (hf : Fin m) (hc : Can t m) : Fin (movS t m) := fun i hi => by
 rw [movS_len] at hi
 rw [movS_get t m hi, if_neg (hf i hi)]
 have := weight_nn h2 (i : Int)
 rcases hc i hi with e | e
 · exact absurd e (hf i hi)
 · omega
theorem TreeOk.exact (h : TreeOk ts n m0 tr) {i j t : Nat} (hf : Fin (tr.getD i zN).f2) (he : (tr.getD i zN).f2 = ancS tr (j + 1) (j : Int) (movS (ts.getD t zT) (tr.getD j zN).f2)) : (tr.getD i zN).f2 = movS (ts.getD t zT) (tr.getD j zN).f2 := by
 rcases ancS_cases tr (j + 1) (j : Int) (movS (ts.getD t zT) (tr.getD j zN).f2) with e | ⟨e, _⟩
 · rw [he, e]
 · exact absurd (by rw [← he]; exact hf) e
theorem mem_markings {tr : List Nd} {m : List Int} : m ∈ tr.map (·.f2) ↔ ∃ i, i < tr.length ∧ (tr.getD i zN).f2 = m := by
 constructor
 ·intro h
  obtain ⟨x, hx, rfl⟩ := List.mem_map.1 h
  obtain ⟨i, hi, rfl⟩ := List.getElem_of_mem hx
  exact ⟨i, hi, by rw [List.getD_eq_getElem?_getD, List.getElem?_eq_getElem hi]; rfl⟩
 ·rintro ⟨i, hi, rfl⟩
  exact List.mem_map.2 ⟨_, getD_mem tr zN hi, rfl⟩
theorem TreeOk.closed (h : TreeOk ts n m0 tr) (hk : ∀ i, i < tr.length → Kids ts tr i) (hf : ∀ i, i < tr.length → Fin (tr.getD i zN).f2) : Closed ts n m0 (tr.map (·.f2)) := by
 refine ⟨mem_markings.2 ⟨0, h.ne, by rw [h.root]⟩, fun m hm => ?_, fun m hm t ht hc => ?_⟩
 ·obtain ⟨i, hi, rfl⟩ := mem_markings.1 hm
  exact ⟨h.om i hi, hf i hi⟩
 ·obtain ⟨i, hi, rfl⟩ := mem_markings.1 hm
  obtain ⟨j, h1, h2, h3⟩ := h.firstOf i hi
  rw [← h2] at hc ⊢
  obtain ⟨_, c, h4, h5, h6, h7⟩ := hk j (by omega) h3 t ht hc
  obtain ⟨j', t', k1, k2, k3, k4, k5, k6, k7⟩ := h.up c (by omega) h5
  obtain rfl : j' = j := by omega
  obtain rfl : t' = t := by omega
  exact mem_markings.2 ⟨c, h5, h.exact (hf c h5) k7⟩
inductive Run (ts : List Tra) (a : List Int) : List Int → Prop
 | refl : Run ts a a
 | step {b : List Int} {t : Nat} (h : Run ts a b) (ht : t < ts.length) (hc : Can (ts.getD t zT) b) : Run ts a (movS (ts.getD t zT) b)
theorem Run.trans {a b c : List Int} (h : Run ts a b) (k : Run ts b c) : Run ts a c := by
 induction k with
 | refl => exact h
 | step _ ht hc ih => exact ih.step ht hc
theorem Run.len {a b : List Int} (h : Run ts a b) : b.length = a.length := by
 induction h with
 | refl => rfl
 | step _ _ _ ih => rw [movS_len, ih]
theorem Run.shift {np : Int} (ha : Arcs np ts) {l : List (List Int)} (hl : Closed ts n m0 l) {a b a' : List Int} (h : Run ts a b) (hfa : Fin a) (hn : a.length = n) (ha' : a' ∈ l) (hle : ∀ i, i < n → a.getD i 0 ≤ a'.getD i 0) :
  Fin b ∧ ∃ b', b' ∈ l ∧ ∀ i, i < n → b'.getD i 0 = b.getD i 0 + (a'.getD i 0 - a.getD i 0) := by
 induction h with
 | refl => exact ⟨hfa, a', ha', fun i hi => by omega⟩
 | @step b t hr ht hc ih =>
  obtain ⟨fb, b', hb', e⟩ := ih
  have lb : b.length = n := by rw [hr.len, hn]
  obtain ⟨ob, fb'⟩ := hl.om b' hb'
  have hc' : Can (ts.getD t zT) b' := fun p hp => by
   have hp' : p < n := by rw [← ob.len]; exact hp
   have h1 := hc p (by omega)
   have h2 := fb p (by omega)
   have h3 := e p hp'
   have h4 := hle p hp'
   omega
  refine ⟨movS_fin (ha t ht).2 fb hc, _, hl.next b' hb' t ht hc', fun i hi => ?_⟩
  have hi1 : i < b'.length := by rw [ob.len]; exact hi
  have hi2 : i < b.length := by omega
  have h3 := e i hi
  rw [movS_get _ _ hi1, movS_get _ _ hi2, if_neg (fb i hi2), if_neg (fb' i hi1)]
  omega
theorem Run.grows {np : Int} (ha : Arcs np ts) {l : List (List Int)} (hl : Closed ts n m0 l) {a b : List Int} (h : Run ts a b) (hia : a ∈ l) (hle : ∀ i, i < n → a.getD i 0 ≤ b.getD i 0) {p : Nat} (hp : p < n) (hlt : a.getD p 0 < b.getD p 0) : False := by
 have go : ∀ k : Nat, ∃ x, x ∈ l ∧ ∀ i, i < n → a.getD i 0 ≤ x.getD i 0 ∧ (i = p → a.getD i 0 + (k : Int) ≤ x.getD i 0) := by
  intro k
  induction k with
  | zero => exact ⟨a, hia, fun i hi => ⟨Int.le_refl _, fun _ => by omega⟩⟩
  | succ k ih =>
   obtain ⟨x, hx, e⟩ := ih
   obtain ⟨_, y, hy, ey⟩ := h.shift ha hl (hl.om a hia).2 (hl.om a hia).1.len hx (fun i hi => (e i hi).1)
   refine ⟨y, hy, fun i hi => ?_⟩
   have h1 := ey i hi
   have h2 := e i hi
   have h3 := hle i hi
   refine ⟨by omega, fun c => ?_⟩
   subst c
   have := h2.2 rfl
   omega
 obtain ⟨x, hx, e⟩ := go 1048578
 have h1 := (e p hp).2 rfl
 have h2 := (hl.om x hx).1.cases hp
 have h3 := (hl.om a hia).1.cases hp
 omega
theorem TreeOk.run (h : TreeOk ts n m0 tr) {b : Nat} (hb : b ≤ tr.length) (hf : ∀ i, i < b → Fin (tr.getD i zN).f2) {i a : Nat} (hu : Up tr i a) : i < b → Run ts (tr.getD a zN).f2 (tr.getD i zN).f2 ∧ a < b := by
 induction hu with
 | refl i => exact fun hi => ⟨Run.refl, hi⟩
 | @step i j a he _ ih =>
  intro hi
  have h0 : 0 < i := by
   by_cases c : 0 < i
   ·exact c
   ·obtain rfl : i = 0 := by omega
    rw [h.root] at he
    simp only at he
    omega
  obtain ⟨j', t, h1, h2, h3, h4, h5, h6, h7⟩ := h.up i h0 (by omega)
  obtain rfl : j' = j := by omega
  obtain ⟨k1, k2⟩ := ih (by omega)
  refine ⟨?_, k2⟩
  rw [h.exact (hf i hi) h7]
  exact k1.step h4 h5
def wt (l : List Ac) (i : Nat) (p : Int) : Int := first (fun j => if (l.getD j zA).f0 = p then some (l.getD j zA).f1 else none) 0 i
theorem wt_none {l : List Ac} {i : Nat} {p : Int} (h : ∀ j, j < i → (l.getD j zA).f0 ≠ p) : wt l i p = 0 := first_all (fun j hj => if_neg (h j hj))
theorem wt_at {l : List Ac} {np : Int} (h : arcsE np l = 0) {i : Nat} (hi : i < l.length) {n : Nat} (hn : i < n) : wt l n (l.getD i zA).f0 = (l.getD i zA).f1 :=
 first_at i hn (if_pos rfl) (fun j hj => if_neg (fun e => by have := arcs_lt h hj hi; omega))
theorem weight_at {l : List Ac} {np : Int} (h : arcsE np l = 0) {i : Nat} (hi : i < l.length) : weightS l (l.getD i zA).f0 = (l.getD i zA).f1 := wt_at h hi hi
theorem weight_none {l : List Ac} {p : Int} (h : ∀ j, j < l.length → (l.getD j zA).f0 ≠ p) : weightS l p = 0 := wt_none h
theorem arc_place {np : Nat} {l : List Ac} (h : arcsE (np : Int) l = 0) {i : Nat} (hi : i < l.length) : ∃ p : Nat, p < np ∧ (l.getD i zA).f0 = (p : Int) ∧ 1 ≤ (l.getD i zA).f1 ∧ (l.getD i zA).f1 ≤ 99 := by
 obtain ⟨h1, h2, h3, h4, h5⟩ := arcsE_zero h i hi
 exact ⟨(l.getD i zA).f0.toNat, by omega, by omega, h4, h5⟩
theorem kfits_ev (nm : ByteArray) {ps : List Pla} {ts : List Tra} (hp : ps.length ≤ 1000000) (ht : ts.length ≤ 1000000) (hT : Thin ts) {m : List Int} (hm : m.length ≤ 17592186043904) : Ev (fun k => karpmiller_fits.f k nm ps ts m) (fitsS (validS nm ps ts) ps ts m) := by
 unfold karpmiller_fits.f fitsS
 refine Ev.bind (plain_ev nm hp ht hT) ?_
 by_cases h : plainS (validS nm ps ts) ps ts = true
 ·simp only [h, ↓reduceIte]
  exact Ev.bind (omvalid_ev m _ hm) (Ev.some _)
 ·simp only [h]; exact Ev.some _
theorem can_arcs {t : Tra} {n : Nat} {m : List Int} (h : Om n m) (h1 : arcsE (n : Int) t.f1 = 0) : Can t m ↔ ∀ i, i < t.f1.length → ¬ (m.getD (t.f1.getD i zA).f0.toNat 0 ≠ -1 ∧ m.getD (t.f1.getD i zA).f0.toNat 0 < (t.f1.getD i zA).f1) := by
 constructor
 ·intro hc i hi
  obtain ⟨p, hp, e, _, _⟩ := arc_place h1 hi
  have := hc p (by rw [h.len]; exact hp)
  rw [← e, weight_at h1 hi] at this
  rw [e, Int.toNat_natCast]
  omega
 ·intro hc p hp
  by_cases c : ∃ i, i < t.f1.length ∧ (t.f1.getD i zA).f0 = (p : Int)
  ·obtain ⟨i, hi, e⟩ := c
   have := hc i hi
   have w := weight_at h1 hi
   rw [e] at w this
   rw [Int.toNat_natCast] at this
   rw [w]
   omega
  ·rw [weight_none (fun j hj e => c ⟨j, hj, e⟩)]
   have := h.cases (i := p) (by rw [← h.len]; exact hp)
   omega
theorem kenabled_ev (t : Tra) {n : Nat} {m : List Int} (h : Om n m) (h1 : arcsE (n : Int) t.f1 = 0) (hl : t.f1.length ≤ 1000000) : Ev (fun k => karpmiller_enabled.f k t.f0 t.f1 t.f2 t.f3 t.f4 m) (canS t m) := by
 have e : canS t m = first (fun i => if m.getD (t.f1.getD i zA).f0.toNat 0 ≠ -1 ∧ m.getD (t.f1.getD i zA).f0.toNat 0 < (t.f1.getD i zA).f1 then some false else none) true t.f1.length := by
  rw [first_any]
  by_cases c : Can t m
  ·rw [canS_iff.2 c, if_neg]
   rintro ⟨i, hi, x⟩
   exact (can_arcs h h1).1 c i hi x
  ·have : canS t m = false := by cases e : canS t m with | false => rfl | true => exact absurd (canS_iff.1 e) c
   rw [this, if_pos]
   apply Classical.byContradiction
   intro x
   exact c ((can_arcs h h1).2 (fun i hi y => x ⟨i, hi, y⟩))
 rw [e]
 unfold karpmiller_enabled.f
 refine Ev_loop (L := fun k i => karpmiller_enabled.l0 k m t.f1 (t.f1.length : Int) (i : Int)) 1 _ (fun k i hi => ?_) (Ev.one (fun k => by simp only [karpmiller_enabled.l0]; rw [if_neg (by omega)]))
 obtain ⟨p, hp, e, _, _⟩ := arc_place h1 hi
 simp only [karpmiller_enabled.l0, lt_int hi, nn, ↓reduceIte, rdA, wrap_up hi (by omega : t.f1.length ≤ 9223372036854775807), e, Int.toNat_natCast, rd_nat, lt_int (show p < m.length by rw [h.len]; exact hp)]
 by_cases c : m.getD p 0 = -1
 ·simp only [c, ↓reduceIte, ne_eq, not_true_eq_false, false_and]; rfl
 ·by_cases d : m.getD p 0 < (t.f1.getD i zA).f1
  ·simp only [c, d, ↓reduceIte, ne_eq, not_false_eq_true, true_and, and_self]; rfl
  ·simp only [c, d, ↓reduceIte, ne_eq, not_false_eq_true, true_and, and_false]; rfl
theorem fitsS_om {v : Bool} {ps : List Pla} {ts : List Tra} {m : List Int} (h : fitsS v ps ts m = true) : plainS v ps ts = true ∧ Om ps.length m := by
 unfold fitsS at h
 by_cases c : plainS v ps ts = true
 · rw [if_pos c] at h; exact ⟨c, omS_iff.1 h⟩
 · rw [if_neg c] at h; cases h
theorem plain_valid {v : Bool} {ps : List Pla} {ts : List Tra} (h : plainS v ps ts = true) : v = true := by
 rw [plain_swap] at h
 cases v with
 | true => rfl
 | false => simp at h
theorem kEnabled_ev (nm : ByteArray) {ps : List Pla} {ts : List Tra} (hp : ps.length ≤ 1000000) (ht : ts.length ≤ 1000000) (hT : Thin ts) {m : List Int} (hm : m.length ≤ 17592186043904) : Ev (fun k => karpmiller_Enabled.f k nm ps ts m) (enabS (validS nm ps ts) ps ts m) := by
 unfold karpmiller_Enabled.f enabS
 refine Ev.bind (kfits_ev nm hp ht hT hm) ?_
 by_cases h : fitsS (validS nm ps ts) ps ts m = true
 ·simp only [h, ↓reduceIte]
  obtain ⟨h1, h2⟩ := fitsS_om h
  have hV := validS_iff.1 (plain_valid h1)
  refine Ev_up (L := fun k i => karpmiller_Enabled.l0 k m (((List.range i).filter (fun t => canS (ts.getD t zT) m)).map (fun t : Nat => (t : Int))) ts (ts.length : Int) (i : Int)) (n := ts.length) (fun i hi hr => ?_) (Ev.one (fun k => by simp only [karpmiller_Enabled.l0]; rw [if_neg (by omega)]))
  refine Ev.up ?_
  have fl := filter_len (fun t => canS (ts.getD t zT) m) i
  simp only [karpmiller_Enabled.l0, lt_int hi, nn, ↓reduceIte, rdT, wrap_up hi (by omega : ts.length ≤ 9223372036854775807), show (((List.range i).filter (fun t => canS (ts.getD t zT) m)).map (fun t : Nat => (t : Int))).length < 17592186044416 by omega]
  refine Ev.bind (kenabled_ev (ts.getD i zT) h2 (hV.arcs hi).2.1 (hT.at hi).2.1) ?_
  rw [filter_next] at hr
  by_cases c : canS (ts.getD i zT) m = true
  ·simp only [c, ↓reduceIte] at hr ⊢; exact hr
  ·simp only [c] at hr ⊢; exact hr
 ·simp only [h]; exact Ev.some _
set_option linter.unusedSimpArgs false in
theorem refname_step (k : Nat) (s : ByteArray) (i : Nat) (hi : i < s.size) (hs : s.size ≤ 1000000) :
   r09_Name.l0 (k + 1) s (i : Int) = stepO (if nameC (i : Int) (bt s (i : Int)) = true then none else some false) (r09_Name.l0 k s ((i + 1 : Nat) : Int)) := by
 simp only [r09_Name.l0]
 rw [if_pos (by omega), if_pos (by omega), wrap_up hi (by omega)]
 unfold nameC
 generalize bt s (i : Int) = c
 have e95 : (c == 95) = decide (c = 95) := by rw [Bool.eq_iff_iff]; simp
 have e46 : (c == 46) = decide (c = 46) := by rw [Bool.eq_iff_iff]; simp
 rw [e95, e46]
 have b7 : (0 : Int) < (i : Int) ↔ ¬ (i : Int) = 0 := by omega
 by_cases a1 : c ≥ 97 <;> by_cases a2 : c ≤ 122 <;> by_cases a3 : c = 95 <;> by_cases a4 : c ≥ 48 <;> by_cases a5 : c ≤ 57 <;> by_cases a6 : c = 46 <;> by_cases a7 : (i : Int) = 0 <;>
   first
   | (exfalso; omega)
   | (subst a3; simp [stepO]; done)
   | (subst a6
      have d7 : i = 0 := by omega
      simp [stepO, d7]; done)
   | (subst a6
      have d7 : ¬ i = 0 := by omega
      have d8 : 0 < i := by omega
      simp [stepO, d7, d8]; done)
   | (simp only [b7, a1, a2, a3, a4, a5, a6, a7, ge_iff_le.1 a1, ↓reduceIte, decide_true, decide_false, Bool.true_and, Bool.false_and, Bool.and_true, Bool.and_false, Bool.or_true, Bool.true_or, Bool.or_false, Bool.false_or, Bool.false_eq_true, not_true_eq_false, not_false_eq_true, stepO]; done)
   | (have c1 : ¬ 97 ≤ c := a1
      simp only [b7, a1, c1, a2, a3, a4, a5, a6, a7, ↓reduceIte, decide_true, decide_false, Bool.true_and, Bool.false_and, Bool.and_true, Bool.and_false, Bool.or_true, Bool.true_or, Bool.or_false, Bool.false_or, Bool.false_eq_true, not_true_eq_false, not_false_eq_true, stepO]; first | done | rfl)
theorem refname_ev (s : ByteArray) : Ev (fun k => r09_Name.f k s) (nameB s) := by
 have e0 : ∀ k, r09_Name.f k s = r09_Name.j0 k s (decide ((s.size : Int) < 1 ∨ (s.size : Int) > 16)) := fun k => by
  unfold r09_Name.f
  exact ite_or _ _ (fun b => r09_Name.j0 k s b)
 refine Ev.congr e0 ?_
 by_cases c : (s.size : Int) < 1 ∨ (s.size : Int) > 16
 ·rw [decide_eq_true c]
  have hf : nameB s = false := by
   unfold nameB
   rcases c with c | c
   ·rw [decide_eq_false (show ¬ 1 ≤ s.size by omega)]; rfl
   ·rw [decide_eq_false (show ¬ s.size ≤ 16 by omega)]; simp
  rw [hf]
  exact Ev.one (fun k => by simp only [r09_Name.j0, ↓reduceIte])
 ·rw [decide_eq_false c]
  refine Ev.step (f := fun k => r09_Name.l0 k s ((0 : Nat) : Int)) (fun k => by simp only [r09_Name.j0]; rw [if_neg Bool.false_ne_true]; rfl) ?_
  have h := Ev_loop (L := fun k i => r09_Name.l0 k s (i : Int)) (n := s.size) 1 (fun i => if nameC (i : Int) (bt s (i : Int)) = true then none else some false) (e := true)
   (fun k i hi => refname_step k s i hi (by omega)) (Ev.one (fun k => by simp only [r09_Name.l0]; rw [if_neg (by omega)]))
  have e : first (fun i => if nameC (i : Int) (bt s (i : Int)) = true then none else some false) true s.size = nameB s := by
   rcases first_cases (fun i => if nameC (i : Int) (bt s (i : Int)) = true then none else some false) true s.size with ⟨h1, h2⟩ | ⟨j, h1, h2, _⟩
   ·rw [h1]
    exact (nameB_yes (by omega) (by omega) (fun i hi => of_ite_none (h2 i hi))).symm
   ·obtain ⟨h3, h4⟩ := of_ite_some h2
    rw [← h4]
    exact (nameB_no h1 (Bool.eq_false_iff.2 h3)).symm
  rw [← e]
  exact h
theorem nmE_loop (l : List ByteArray) (s : ByteArray) (h : nameB s = true) : nmE l s = if (l.any fun o => o.toList == s.toList) = true then 6 else 0 := by unfold nmE; rw [if_pos h]
theorem refplace_ev (nm : ByteArray) {ps : List Pla} (ts : List Tra) {i : Nat} (hi : i < ps.length) (hp : ps.length ≤ 1000000) : Ev (fun k => r09_place.f k nm ps ts (i : Int)) (plR ps i) := by
 have e0 : ∀ k, r09_place.f k nm ps ts (i : Int) = (r09_Name.f k (ps.getD i zP).f0).bind fun t => if t = true then r09_place.l0 k (i : Int) 0 nm ps ts (ps.getD i zP).f0 (ps.getD i zP).f1 (ps.getD i zP).f2 else some 5 := fun k => by
  unfold r09_place.f
  rw [if_pos (by omega), if_pos (by omega), rdP]
 refine Ev.congr e0 (Ev.bind (refname_ev _) ?_)
 unfold plR
 by_cases hn : nameB (ps.getD i zP).f0 = true
 ·simp only [hn, ↓reduceIte]
  have hcap : Ev (fun k => r09_place.l0 k (i : Int) (i : Int) nm ps ts (ps.getD i zP).f0 (ps.getD i zP).f1 (ps.getD i zP).f2) (placeE (ps.getD i zP).f1 (ps.getD i zP).f2) := by
   refine Ev.stepn 2 (f := fun _ => some (placeE (ps.getD i zP).f1 (ps.getD i zP).f2)) (fun k => ?_) (Ev.some _)
   simp only [r09_place.l0]
   rw [if_neg (by omega), ite_or _ _ (fun b => r09_place.j1 (k + 1) b (ps.getD i zP).f0 (ps.getD i zP).f1 (ps.getD i zP).f2)]
   simp only [r09_place.j1]
   generalize (ps.getD i zP).f1 = x
   generalize (ps.getD i zP).f2 = c
   unfold placeE
   by_cases c1 : c < 0 ∨ c > 1048576
   ·rw [decide_eq_true c1, if_pos rfl, if_pos c1]
   ·rw [decide_eq_false c1, if_neg Bool.false_ne_true, if_neg c1]
    by_cases c2 : x < 0
    ·rw [if_pos c2, if_pos (Or.inl (Or.inl c2))]
    ·rw [if_neg c2]
     by_cases c3 : x > 1048576
     ·rw [if_pos c3, if_pos (Or.inl (Or.inr c3))]
     ·rw [if_neg c3]
      by_cases c4 : c = 0
      ·rw [if_pos c4, if_neg (by omega)]
      ·rw [if_neg c4]
       by_cases c5 : x > c
       ·rw [if_pos c5, if_pos (Or.inr ⟨c4, c5⟩)]
       ·rw [if_neg c5, if_neg (by omega)]
  have h := Ev_loop (L := fun k j => r09_place.l0 k (i : Int) (j : Int) nm ps ts (ps.getD i zP).f0 (ps.getD i zP).f1 (ps.getD i zP).f2) (n := i) 1 (fun j => if (ps.getD j zP).f0.toList = (ps.getD i zP).f0.toList then some 6 else none) (e := placeE (ps.getD i zP).f1 (ps.getD i zP).f2)
   (fun k j hj => by
    simp only [r09_place.l0]
    rw [if_pos (by omega), if_pos (by omega), if_pos (by omega), rdP, wrap_up hj (by omega)]
    by_cases c : (ps.getD j zP).f0.toList = (ps.getD i zP).f0.toList
    ·rw [if_pos c, if_pos c]; rfl
    ·rw [if_neg c, if_neg c]; rfl) hcap
  rw [first_any] at h
  have e : (∃ j, j < i ∧ (ps.getD j zP).f0.toList = (ps.getD i zP).f0.toList) ↔ (((ps.take i).map (·.f0)).any fun o => o.toList == (ps.getD i zP).f0.toList) = true := by
   rw [any_take ps (·.f0) _ zP (by omega)]
   simp only [beq_iff_eq]
  rw [nmE_loop _ _ hn]
  by_cases d : ∃ j, j < i ∧ (ps.getD j zP).f0.toList = (ps.getD i zP).f0.toList
  ·rw [if_pos d] at h
   rw [if_pos (e.1 d), if_pos (by decide)]
   exact h
  ·rw [if_neg d] at h
   rw [if_neg (fun x => d (e.2 x)), if_neg (by decide)]
   exact h
 ·simp only [hn]
  have : nmE ((ps.take i).map (·.f0)) (ps.getD i zP).f0 = 5 := by unfold nmE; rw [if_neg hn]
  rw [this, if_pos (by decide)]
  exact Ev.some _
theorem refarcs_step (k : Nat) (nm : ByteArray) (ps : List Pla) (ts : List Tra) (l : List Ac) (i : Nat) (hi : i < l.length) (hl : l.length ≤ 1000000) :
  r09_arcs.l0 (k + 3) l (i : Int) nm ps ts = stepO (arcE (ps.length : Int) l i) (r09_arcs.l0 k l ((i + 1 : Nat) : Int) nm ps ts) := by
 simp only [r09_arcs.l0]
 rw [if_pos (by omega), if_pos (by omega), rdA, ite_or _ _ (fun b => r09_arcs.j1 (k + 2) l (i : Int) b nm ps ts)]
 unfold arcE
 by_cases c1 : (l.getD i zA).f0 < 0 ∨ (l.getD i zA).f0 ≥ (ps.length : Int)
 ·rw [decide_eq_true c1, if_pos c1]; simp only [r09_arcs.j1, ↓reduceIte, stepO]
 ·rw [decide_eq_false c1, if_neg c1]
  have e2 : ∀ b : Bool, r09_arcs.j2 (k + 1) l (i : Int) b nm ps ts = if b = true then some 8 else if (l.getD i zA).f1 < 1 ∨ (l.getD i zA).f1 > 99 then some 9 else r09_arcs.l0 k l ((i + 1 : Nat) : Int) nm ps ts := by
   intro b
   simp only [r09_arcs.j2]
   cases b with
   | true => rw [if_pos rfl, if_pos rfl]
   | false => rw [if_neg Bool.false_ne_true, if_neg Bool.false_ne_true, if_pos (by omega), if_pos (by omega), rdA, wrap_up hi (by omega), ite_or2]
  simp only [r09_arcs.j1]
  rw [if_neg Bool.false_ne_true]
  by_cases c2 : 0 < i
  ·rw [if_pos (by omega), if_pos (by omega), if_pos (by omega), if_pos (by rw [wrap_ok (by omega) (by omega)]; omega), if_pos (by rw [wrap_ok (by omega) (by omega)]; omega), wrap_ok (x := (i : Int) - 1) (by omega) (by omega), show ((i : Int) - 1) = ((i - 1 : Nat) : Int) by omega, rdA, rdA, e2]
   by_cases c3 : (l.getD (i - 1) zA).f0 ≥ (l.getD i zA).f0
   ·rw [decide_eq_true (show (l.getD i zA).f0 ≤ (l.getD (i - 1) zA).f0 from c3), if_pos rfl, if_pos ⟨c2, c3⟩]; rfl
   ·rw [decide_eq_false (show ¬ (l.getD i zA).f0 ≤ (l.getD (i - 1) zA).f0 from c3), if_neg Bool.false_ne_true, if_neg (show ¬ (0 < i ∧ (l.getD (i - 1) zA).f0 ≥ (l.getD i zA).f0) from fun h => c3 h.2)]
    by_cases d : (l.getD i zA).f1 < 1 ∨ (l.getD i zA).f1 > 99
    ·rw [if_pos d, if_pos d]; rfl
    ·rw [if_neg d, if_neg d]; rfl
  ·rw [if_neg (by omega), e2, if_neg Bool.false_ne_true, if_neg (show ¬ (0 < i ∧ (l.getD (i - 1) zA).f0 ≥ (l.getD i zA).f0) from fun h => c2 h.1)]
   by_cases d : (l.getD i zA).f1 < 1 ∨ (l.getD i zA).f1 > 99
   ·rw [if_pos d, if_pos d]; rfl
   ·rw [if_neg d, if_neg d]; rfl
theorem refarcs_ev (nm : ByteArray) (ps : List Pla) (ts : List Tra) (l : List Ac) (hl : l.length ≤ 1000000) : Ev (fun k => r09_arcs.f k nm ps ts l) (arcsE (ps.length : Int) l) :=
 Ev_loop (L := fun k i => r09_arcs.l0 k l (i : Int) nm ps ts) 3 (arcE (ps.length : Int) l) (fun k i hi => refarcs_step k nm ps ts l i hi hl)
  (Ev.one (fun k => by simp only [r09_arcs.l0]; rw [if_neg (by omega)]))
theorem reftrans_ev (nm : ByteArray) {ps : List Pla} {ts : List Tra} {i : Nat} (hi : i < ts.length) (hp : ps.length ≤ 1000000) (ht : ts.length ≤ 1000000) (hT : Thin ts) : Ev (fun k => r09_trans.f k nm ps ts (i : Int)) (trR ps ts i) := by
 have e0 : ∀ k, r09_trans.f k nm ps ts (i : Int) = (r09_Name.f k (ts.getD i zT).f0).bind fun t => if t = true then r09_trans.l0 k (i : Int) 0 nm ps ts (ts.getD i zT).f0 (ts.getD i zT).f1 (ts.getD i zT).f2 (ts.getD i zT).f3 (ts.getD i zT).f4 else some 5 := fun k => by
  unfold r09_trans.f
  rw [if_pos (by omega), if_pos (by omega), rdT]
 refine Ev.congr e0 (Ev.bind (refname_ev _) ?_)
 unfold trR
 have hth := hT.at hi
 generalize ts.getD i zT = t at hth
 by_cases hn : nameB t.f0 = true
 ·simp only [hn, ↓reduceIte]
  have h2 : Ev (fun k => r09_trans.l1 k (i : Int) (i : Int) nm ps ts t.f0 t.f1 t.f2 t.f3 t.f4) (transE (ps.length : Int) t) := by
   refine Ev.step (f := fun k => r09_trans.j2 k (decide (t.f4 < 0 ∨ t.f4 > 9)) nm ps ts t.f0 t.f1 t.f2 t.f3 t.f4) (fun k => ?_) ?_
   ·simp only [r09_trans.l1]
    rw [if_neg (by omega)]
    exact ite_or _ _ (fun b => r09_trans.j2 k b nm ps ts t.f0 t.f1 t.f2 t.f3 t.f4)
   ·unfold transE
    by_cases c : t.f4 < 0 ∨ t.f4 > 9
    ·rw [decide_eq_true c, if_pos c]
     exact Ev.one (fun k => by simp only [r09_trans.j2, ↓reduceIte])
    ·rw [decide_eq_false c, if_neg c]
     refine Ev.step (f := fun k => (r09_arcs.f k nm ps ts t.f1).bind fun a => if a = 0 then ((r09_arcs.f k nm ps ts t.f2).bind fun b => if b = 0 then ((r09_arcs.f k nm ps ts t.f3).bind fun c => some c) else some b) else some a) (fun k => by simp only [r09_trans.j2]; rw [if_neg Bool.false_ne_true]) ?_
     refine Ev.bind (refarcs_ev nm ps ts _ hth.2.1) ?_
     by_cases d1 : arcsE (ps.length : Int) t.f1 = 0
     ·rw [if_neg (by simpa using d1)]
      simp only [d1, ↓reduceIte]
      refine Ev.bind (refarcs_ev nm ps ts _ hth.2.2.1) ?_
      by_cases d2 : arcsE (ps.length : Int) t.f2 = 0
      ·rw [if_neg (by simpa using d2)]
       simp only [d2, ↓reduceIte]
       exact Ev.bind (refarcs_ev nm ps ts _ hth.2.2.2) (Ev.some _)
      ·rw [if_pos d2]
       simp only [d2, ↓reduceIte]
       exact Ev.some _
     ·rw [if_pos d1]
      simp only [d1, ↓reduceIte]
      exact Ev.some _
  have h1 := Ev_loop (L := fun k j => r09_trans.l1 k (i : Int) (j : Int) nm ps ts t.f0 t.f1 t.f2 t.f3 t.f4) (n := i) 1 (fun j => if (ts.getD j zT).f0.toList = t.f0.toList then some 6 else none) (e := transE (ps.length : Int) t)
   (fun k j hj => by
    simp only [r09_trans.l1]
    rw [if_pos (by omega), if_pos (by omega), if_pos (by omega), rdT, wrap_up hj (by omega)]
    by_cases c : (ts.getD j zT).f0.toList = t.f0.toList
    ·rw [if_pos c, if_pos c]; rfl
    ·rw [if_neg c, if_neg c]; rfl) h2
  have h0 := Ev_loop (L := fun k j => r09_trans.l0 k (i : Int) (j : Int) nm ps ts t.f0 t.f1 t.f2 t.f3 t.f4) (n := ps.length) 1 (fun j => if (ps.getD j zP).f0.toList = t.f0.toList then some 6 else none) (e := first (fun j => if (ts.getD j zT).f0.toList = t.f0.toList then some 6 else none) (transE (ps.length : Int) t) i)
   (fun k j hj => by
    simp only [r09_trans.l0]
    rw [if_pos (by omega), if_pos (by omega), rdP, wrap_up hj (by omega)]
    by_cases c : (ps.getD j zP).f0.toList = t.f0.toList
    ·rw [if_pos c, if_pos c]; rfl
    ·rw [if_neg c, if_neg c]; rfl)
   (Ev.step (f := fun k => r09_trans.l1 k (i : Int) ((0 : Nat) : Int) nm ps ts t.f0 t.f1 t.f2 t.f3 t.f4) (fun k => by simp only [r09_trans.l0]; rw [if_neg (by omega)]; rfl) h1)
  rw [first_any, first_any] at h0
  have e : (((ps.map (·.f0)) ++ (ts.take i).map (·.f0)).any fun o => o.toList == t.f0.toList) = true ↔ (∃ j, j < ps.length ∧ (ps.getD j zP).f0.toList = t.f0.toList) ∨ (∃ j, j < i ∧ (ts.getD j zT).f0.toList = t.f0.toList) := by
   rw [List.any_append, Bool.or_eq_true, any_take ts (·.f0) _ zT (by omega), any_all ps (·.f0) _ zP]
   simp only [beq_iff_eq]
  rw [nmE_loop _ _ hn]
  by_cases d : ∃ j, j < ps.length ∧ (ps.getD j zP).f0.toList = t.f0.toList
  ·rw [if_pos d] at h0
   rw [if_pos (e.2 (Or.inl d)), if_pos (by decide)]
   exact h0
  ·rw [if_neg d] at h0
   by_cases d2 : ∃ j, j < i ∧ (ts.getD j zT).f0.toList = t.f0.toList
   ·rw [if_pos d2] at h0
    rw [if_pos (e.2 (Or.inr d2)), if_pos (by decide)]
    exact h0
   ·rw [if_neg d2] at h0
    rw [if_neg (fun x => (e.1 x).elim d d2), if_neg (by decide)]
    exact h0
 ·simp only [hn]
  have : nmE (ps.map (·.f0) ++ (ts.take i).map (·.f0)) t.f0 = 5 := by unfold nmE; rw [if_neg hn]
  rw [this, if_pos (by decide)]
  exact Ev.some _
theorem refcheck_ev (nm : ByteArray) {ps : List Pla} {ts : List Tra} (hT : Thin ts) : Ev (fun k => r09_Check.f k nm ps ts) (checkS nm ps ts) := by
 unfold r09_Check.f checkS
 refine Ev.bind (refname_ev nm) ?_
 by_cases h1 : nameB nm = true
 ·simp only [h1, ↓reduceIte]
  have e0 : ∀ k, (if (ps.length : Int) < 1 then r09_Check.j0 k true nm ps ts else if (ps.length : Int) > 24 then r09_Check.j0 k true nm ps ts else r09_Check.j0 k (decide ((ts.length : Int) > 24)) nm ps ts) = r09_Check.j0 k (decide ((ps.length : Int) < 1 ∨ (24 : Int) < (ps.length : Int) ∨ (24 : Int) < (ts.length : Int))) nm ps ts := fun k => by
   rw [ite_or ((ps.length : Int) > 24) _ (fun b => r09_Check.j0 k b nm ps ts)]
   exact ite_or _ _ (fun b => r09_Check.j0 k b nm ps ts)
  refine Ev.congr e0 ?_
  by_cases h2 : (ps.length : Int) < 1 ∨ (24 : Int) < (ps.length : Int) ∨ (24 : Int) < (ts.length : Int)
  ·rw [decide_eq_true h2, if_pos h2]
   exact Ev.one (fun k => by simp only [r09_Check.j0, ↓reduceIte])
  ·rw [decide_eq_false h2, if_neg h2]
   refine Ev.step (f := fun k => r09_Check.l0 k ((0 : Nat) : Int) nm ps ts) (fun k => by simp only [r09_Check.j0]; rw [if_neg Bool.false_ne_true]; rfl) ?_
   have ht := Ev_first (L := fun k i => r09_Check.l1 k (i : Int) nm ps ts) (n := ts.length) (tF ps ts) (e := ((0 : Int), (0 : Int)))
    (fun i hi hf r hr => Ev.step (f := fun k => (r09_trans.f k nm ps ts (i : Int)).bind fun t => if t = 0 then r09_Check.l1 k ((i + 1 : Nat) : Int) nm ps ts else some (t, (ps.length : Int) + (i : Int))) (fun k => by
     simp only [r09_Check.l1]
     rw [if_pos (by omega), wrap_up hi (by omega), wrap_ok (x := (ps.length : Int) + (i : Int)) (by omega) (by omega)]) (by
      refine Ev.bind (reftrans_ev nm hi (by omega) (by omega) hT) ?_
      have hz := of_ite_none hf
      simp only [hz, ↓reduceIte]
      exact hr))
    (fun i r hi hf => Ev.step (f := fun k => (r09_trans.f k nm ps ts (i : Int)).bind fun t => if t = 0 then r09_Check.l1 k ((i + 1 : Nat) : Int) nm ps ts else some (t, (ps.length : Int) + (i : Int))) (fun k => by
     simp only [r09_Check.l1]
     rw [if_pos (by omega), wrap_up hi (by omega), wrap_ok (x := (ps.length : Int) + (i : Int)) (by omega) (by omega)]) (by
      refine Ev.bind (reftrans_ev nm hi (by omega) (by omega) hT) ?_
      obtain ⟨hz, rfl⟩ := of_ite_some hf
      simp only [hz, ↓reduceIte]
      exact Ev.some _))
    (Ev.one (fun k => by simp only [r09_Check.l1]; rw [if_neg (by omega)]))
   exact Ev_first (L := fun k i => r09_Check.l0 k (i : Int) nm ps ts) (n := ps.length) (pF ps) (e := first (tF ps ts) (0, 0) ts.length)
    (fun i hi hf r hr => Ev.step (f := fun k => (r09_place.f k nm ps ts (i : Int)).bind fun t => if t = 0 then r09_Check.l0 k ((i + 1 : Nat) : Int) nm ps ts else some (t, (i : Int))) (fun k => by
     simp only [r09_Check.l0]
     rw [if_pos (by omega), wrap_up hi (by omega)]) (by
      refine Ev.bind (refplace_ev nm ts hi (by omega)) ?_
      have hz := of_ite_none hf
      simp only [hz, ↓reduceIte]
      exact hr))
    (fun i r hi hf => Ev.step (f := fun k => (r09_place.f k nm ps ts (i : Int)).bind fun t => if t = 0 then r09_Check.l0 k ((i + 1 : Nat) : Int) nm ps ts else some (t, (i : Int))) (fun k => by
     simp only [r09_Check.l0]
     rw [if_pos (by omega), wrap_up hi (by omega)]) (by
      refine Ev.bind (refplace_ev nm ts hi (by omega)) ?_
      obtain ⟨hz, rfl⟩ := of_ite_some hf
      simp only [hz, ↓reduceIte]
      exact Ev.some _))
    (Ev.step (f := fun k => r09_Check.l1 k ((0 : Nat) : Int) nm ps ts) (fun k => by simp only [r09_Check.l0]; rw [if_neg (by omega)]; rfl) ht)
 ·simp only [h1]; exact Ev.some _
theorem refvalid_ev (nm : ByteArray) {ps : List Pla} {ts : List Tra} (hT : Thin ts) : Ev (fun k => r09_Valid.f k nm ps ts) (validS nm ps ts) := by
 unfold r09_Valid.f
 exact Ev.bind (refcheck_ev nm hT) (Ev.some _)
theorem refweight_ev (l : List Ac) (p : Int) (hl : l.length ≤ 1000000) : Ev (fun k => r09_Weight.f k l p) (weightS l p) :=
 Ev_loop (L := fun k i => r09_Weight.l0 k l p (i : Int)) 1 _ (fun k i hi => by
  simp only [r09_Weight.l0]
  rw [if_pos (by omega), if_pos (by omega), rdA, wrap_up hi (by omega)]
  by_cases c : (l.getD i zA).f0 = p
  ·rw [if_pos c, if_pos c]; rfl
  ·rw [if_neg c, if_neg c]; rfl) (Ev.one (fun k => by simp only [r09_Weight.l0]; rw [if_neg (by omega)]))
theorem refplain_ev (nm : ByteArray) {ps : List Pla} {ts : List Tra} (hp : ps.length ≤ 1000000) (ht : ts.length ≤ 1000000) (hT : Thin ts) : Ev (fun k => r09_Plain.f k nm ps ts) (plainS (validS nm ps ts) ps ts) := by
 rw [plain_swap]
 unfold r09_Plain.f
 refine Ev.bind (refvalid_ev nm hT) ?_
 by_cases hv : validS nm ps ts = true
 ·simp only [hv, ↓reduceIte]
  have h1 := Ev_loop (L := fun k i => r09_Plain.l1 k (i : Int) nm ps ts) (n := ts.length) 1 (fun i => if ((ts.getD i zT).f3.length : Int) > 0 ∨ (ts.getD i zT).f4 ≠ 0 then some false else none) (e := true)
   (fun k i hi => by
    simp only [r09_Plain.l1]
    rw [if_pos (by omega), if_pos (by omega), rdT, wrap_up hi (by omega)]
    by_cases c1 : ((ts.getD i zT).f3.length : Int) > 0
    ·rw [if_pos c1, if_pos (Or.inl c1)]; rfl
    ·rw [if_neg c1]
     by_cases c2 : (ts.getD i zT).f4 = 0
     ·rw [if_pos c2, if_neg (fun h => h.elim c1 (fun h => h c2))]; rfl
     ·rw [if_neg c2, if_pos (Or.inr c2)]; rfl)
   (Ev.one (fun k => by simp only [r09_Plain.l1]; rw [if_neg (by omega)]))
  exact Ev_loop (L := fun k i => r09_Plain.l0 k (i : Int) nm ps ts) (n := ps.length) 1 (fun i => if (ps.getD i zP).f2 ≠ 0 then some false else none) (e := plainT ts true)
   (fun k i hi => by
    simp only [r09_Plain.l0]
    rw [if_pos (by omega), if_pos (by omega), rdP, wrap_up hi (by omega)]
    by_cases c : (ps.getD i zP).f2 = 0
    ·rw [if_pos c, if_neg (by simpa using c)]; rfl
    ·rw [if_neg c, if_pos c]; rfl)
   (Ev.step (f := fun k => r09_Plain.l1 k ((0 : Nat) : Int) nm ps ts) (fun k => by simp only [r09_Plain.l0]; rw [if_neg (by omega)]; rfl) h1)
 ·simp only [hv]; exact Ev.some _
theorem fitsS_false {v : Bool} {ps : List Pla} {ts : List Tra} {m : List Int} (h : ¬ fitsS v ps ts m = true) : fitsS v ps ts m = false := by cases e : fitsS v ps ts m with | false => rfl | true => exact absurd e h
theorem plainS_valid {v : Bool} {ps : List Pla} {ts : List Tra} (h : plainS v ps ts = true) : v = true := by
 rw [plain_swap] at h
 cases v with
 | true => rfl
 | false => simp at h
theorem reffits_ev (nm : ByteArray) {ps : List Pla} {ts : List Tra} (hp : ps.length ≤ 1000000) (ht : ts.length ≤ 1000000) (hT : Thin ts) {m : List Int} (hm : m.length ≤ 17592186043904) : Ev (fun k => r22_fits.f k nm ps ts m) (fitsS (validS nm ps ts) ps ts m) := by
 unfold r22_fits.f
 refine Ev.bind (refvalid_ev nm hT) ?_
 by_cases hv : validS nm ps ts = true
 ·simp only [hv, ↓reduceIte]
  refine Ev.bind (refplain_ev nm hp ht hT) ?_
  rw [hv]
  unfold fitsS
  by_cases h : plainS true ps ts = true
  ·simp only [h, ↓reduceIte]
   exact Ev.bind (refom_ev m _ hm) (Ev.some _)
  ·simp only [h]; exact Ev.some _
 ·have e : fitsS (validS nm ps ts) ps ts m = false := by
   unfold fitsS
   rw [if_neg (fun h => hv (plainS_valid h))]
  rw [e]
  simp only [hv]; exact Ev.some _
theorem refcan_ev (nm : ByteArray) (ps : List Pla) {ts : List Tra} (hT : Thin ts) {m : List Int} (hm : m.length ≤ 17592186043904) {t : Nat} (ht : t < ts.length) : Ev (fun k => r22_can.f k nm ps ts m (t : Int)) (canS (ts.getD t zT) m) := by
 unfold r22_can.f canS
 have step : ∀ i, i < m.length → ∀ r, (if m.getD i 0 ≠ -1 ∧ m.getD i 0 < weightS (ts.getD t zT).f1 (i : Int) then r = false else Ev (fun k => r22_can.l0 k m (t : Int) ((i + 1 : Nat) : Int) nm ps ts) r) → Ev (fun k => r22_can.l0 k m (t : Int) (i : Int) nm ps ts) r := by
  intro i hi r hr
  refine Ev.up ?_
  simp only [r22_can.l0, lt_int hi, lt_int ht, nn, ↓reduceIte, rd_nat, rdT, wrap_up hi (by omega : m.length ≤ 9223372036854775807)]
  by_cases c : m.getD i 0 = -1
  ·simp only [c, ↓reduceIte, ne_eq, not_true_eq_false, false_and] at hr ⊢
   exact hr
  ·simp only [c, ↓reduceIte, ne_eq, not_false_eq_true, true_and] at hr ⊢
   refine Ev.bind (refweight_ev _ _ (hT.at ht).2.1) ?_
   by_cases d : m.getD i 0 < weightS (ts.getD t zT).f1 (i : Int)
   ·simp only [d, ↓reduceIte] at hr ⊢
    rw [hr]; exact Ev.some _
   ·simp only [d, ↓reduceIte] at hr ⊢
    exact hr
 refine Ev_first (L := fun k i => r22_can.l0 k m (t : Int) (i : Int) nm ps ts) _ (fun i hi hp r hr => step i hi r ?_) (fun i r hi hp => step i hi r ?_) (Ev.one (fun k => by simp only [r22_can.l0]; rw [if_neg (by omega)]))
 ·have : ¬ (m.getD i 0 ≠ -1 ∧ m.getD i 0 < weightS (ts.getD t zT).f1 (i : Int)) := fun x => by rw [if_pos x] at hp; cases hp
  rw [if_neg this]; exact hr
 ·by_cases x : m.getD i 0 ≠ -1 ∧ m.getD i 0 < weightS (ts.getD t zT).f1 (i : Int)
  ·rw [if_pos x] at hp ⊢; exact (Option.some.inj hp).symm
  ·rw [if_neg x] at hp; cases hp
theorem refEnabled_ev (nm : ByteArray) {ps : List Pla} {ts : List Tra} (hp : ps.length ≤ 1000000) (ht : ts.length ≤ 1000000) (hT : Thin ts) {m : List Int} (hm : m.length ≤ 17592186043904) : Ev (fun k => r22_Enabled.f k nm ps ts m) (enabS (validS nm ps ts) ps ts m) := by
 unfold r22_Enabled.f enabS
 by_cases h : fitsS (validS nm ps ts) ps ts m = true
 ·simp only [h, ↓reduceIte]
  refine Ev_up (L := fun k i => r22_Enabled.l0 k m (((List.range i).filter (fun t => canS (ts.getD t zT) m)).map (fun t : Nat => (t : Int))) (i : Int) nm ps ts) (n := ts.length) (fun i hi hr => ?_) (Ev.stepn 2 (f := fun _ => some (((List.range ts.length).filter (fun t => canS (ts.getD t zT) m)).map (fun t : Nat => (t : Int)))) (fun k => by simp only [r22_Enabled.l0]; rw [if_neg (by omega)]; simp only [r22_Enabled.j1, Bool.false_eq_true, ↓reduceIte]) (Ev.some _))
  refine Ev.up ?_
  have fl := filter_len (fun t => canS (ts.getD t zT) m) i
  simp only [r22_Enabled.l0, lt_int hi, nn, ↓reduceIte]
  refine Ev.bind (reffits_ev nm hp ht hT hm) ?_
  rw [h]
  refine Ev.up ?_
  simp only [r22_Enabled.j1, ↓reduceIte, wrap_up hi (by omega : ts.length ≤ 9223372036854775807), show (((List.range i).filter (fun t => canS (ts.getD t zT) m)).map (fun t : Nat => (t : Int))).length < 17592186044416 by omega]
  refine Ev.bind (refcan_ev nm ps hT hm hi) ?_
  rw [filter_next] at hr
  by_cases c : canS (ts.getD i zT) m = true
  ·simp only [c, ↓reduceIte] at hr ⊢; exact hr
  ·simp only [c] at hr ⊢; exact hr
 ·rw [if_neg h]
  refine Ev.up ?_
  by_cases c : (0 : Int) < (ts.length : Int)
  ·simp only [r22_Enabled.l0, c, ↓reduceIte]
   refine Ev.bind (reffits_ev nm hp ht hT hm) ?_
   rw [fitsS_false h]
   exact Ev.one (fun k => by simp only [r22_Enabled.j1, Bool.false_eq_true, ↓reduceIte])
  ·simp only [r22_Enabled.l0, c, ↓reduceIte]
   exact Ev.one (fun k => by simp only [r22_Enabled.j1, Bool.false_eq_true, ↓reduceIte])
theorem enab_lt {v : Bool} {ps : List Pla} {ts : List Tra} {m : List Int} {t : Int} (h : t ∈ enabS v ps ts m) : ∃ n : Nat, t = (n : Int) ∧ n < ts.length := by
 unfold enabS at h
 split at h
 ·obtain ⟨n, hn, rfl⟩ := List.mem_map.1 h
  exact ⟨n, rfl, List.mem_range.1 (List.mem_filter.1 hn).1⟩
 ·cases h
theorem enab_len (v : Bool) (ps : List Pla) (ts : List Tra) (m : List Int) : (enabS v ps ts m).length ≤ ts.length := by
 unfold enabS
 split
 ·rw [List.length_map]
  exact Nat.le_trans (List.length_filter_le _ _) (by rw [List.length_range]; exact Nat.le_refl _)
 ·exact Nat.zero_le _
def setT (ok : List Bool) (E : List Int) : Nat → List Bool
 | 0 => ok
 | j + 1 => (setT ok E j).set (E.getD j 0).toNat true
theorem setT_len (ok : List Bool) (E : List Int) : ∀ j, (setT ok E j).length = ok.length
 | 0 => rfl
 | j + 1 => by
  show ((setT ok E j).set (E.getD j 0).toNat true).length = _
  rw [List.length_set, setT_len ok E j]
def canT (F : List Int → List Int) (l : List (List Int)) (n : Nat) : Nat → List Bool
 | 0 => List.replicate n false
 | i + 1 => setT (canT F l n i) (F (l.getD i [])) (F (l.getD i [])).length
theorem canT_len (F : List Int → List Int) (l : List (List Int)) (n : Nat) : ∀ i, (canT F l n i).length = n
 | 0 => List.length_replicate
 | i + 1 => by
  show (setT _ _ _).length = n
  rw [setT_len, canT_len F l n i]
def onT (ok : List Bool) : Nat → List Int
 | 0 => []
 | i + 1 => if ok.getD i false = true then onT ok i ++ [(i : Int)] else onT ok i
theorem onT_succ (ok : List Bool) (i : Nat) : onT ok (i + 1) = if ok.getD i false = true then onT ok i ++ [(i : Int)] else onT ok i := rfl
theorem onT_len (ok : List Bool) : ∀ i, (onT ok i).length ≤ i
 | 0 => Nat.le_refl _
 | i + 1 => by
  have := onT_len ok i
  rw [onT_succ]
  split
  ·rw [List.length_append, List.length_singleton]; omega
  ·omega
def quasS (nm : ByteArray) (ps : List Pla) (ts : List Tra) (l : List (List Int)) : List Int := onT (canT (enabS (validS nm ps ts) ps ts) (conS [] l) ts.length (conS [] l).length) ts.length
theorem quasS_len (nm : ByteArray) (ps : List Pla) (ts : List Tra) (l : List (List Int)) : (quasS nm ps ts l).length ≤ ts.length := onT_len _ _
theorem filter_ev {ok : List Bool} (h : ok.length ≤ 1000000) : Ev (fun k => mincover_filter.f k (ok.length : Int) ok) (onT ok ok.length) := by
 unfold mincover_filter.f
 refine Ev_st (L := fun k s i => mincover_filter.l0 k (ok.length : Int) ok s i) (n := ok.length) (fun i => onT ok i) (fun i hi hs => ?_) (Ev.one (fun k => by simp only [mincover_filter.l0, Int.lt_irrefl, ↓reduceIte]))
 have hl := onT_len ok i
 rw [onT_succ] at hs
 refine Ev.up ?_
 simp only [mincover_filter.l0, mincover_Quasi_1.f, lt_int hi, nn, ↓reduceIte, rdOf_nat, Option.bind_some, show (onT ok i).length < 17592186044416 by omega, wrap_up hi (by omega : ok.length ≤ 9223372036854775807)]
 by_cases c : ok.getD i false = true
 · simp only [c, ↓reduceIte] at hs ⊢; exact hs
 · simp only [c, Bool.false_eq_true, ↓reduceIte] at hs ⊢; exact hs
section
variable {nm : ByteArray} {ps : List Pla} {ts : List Tra}
theorem mq_row {ok : List Bool} (hok : ok.length ≤ 1000000) {c : List (List Int)} {i : Int} {E : List Int} (hE : E.length ≤ 1000000) (he : ∀ t ∈ E, ∃ n : Nat, t = (n : Int) ∧ n < ok.length) {r : List Int} (h : Ev (fun k => mincover_Quasi.l0 k (setT ok E E.length) c (c.length : Int) (wrap64 (i + 1)) nm ps ts) r) :
  Ev (fun k => mincover_Quasi.l1 k ok c (c.length : Int) i E (E.length : Int) 0 nm ps ts) r := by
 refine Ev_st (L := fun k s j => mincover_Quasi.l1 k s c (c.length : Int) i E (E.length : Int) j nm ps ts) (n := E.length) (fun j => setT ok E j) (fun j hj hs => ?_) ?_
 ·obtain ⟨n, e, hn⟩ := he _ (getD_mem E 0 hj)
  refine Ev.up ?_
  have hs' : Ev (fun k => mincover_Quasi.l1 k ((setT ok E j).set (E.getD j 0).toNat true) c (c.length : Int) i E (E.length : Int) ((j + 1 : Nat) : Int) nm ps ts) r := hs
  simp only [mincover_Quasi.l1, lt_int hj, nn, ↓reduceIte, rd_nat, e, setT_len, lt_int hn, wrap_up hj (by omega : E.length ≤ 9223372036854775807)] at hs' ⊢
  exact hs'
 ·refine Ev.up ?_
  simp only [mincover_Quasi.l1, Int.lt_irrefl, ↓reduceIte]
  exact h
theorem mquasi_ev (hp : ps.length ≤ 1000000) (ht : ts.length ≤ 1000000) (hT : Thin ts) {l : List (List Int)} (h : FewS l) : Ev (fun k => mincover_Quasi.f k nm ps ts l) (quasS nm ps ts l) := by
 unfold mincover_Quasi.f quasS
 simp only [nn, Int.toNat_natCast, show ts.length ≤ 281474976710656 by omega, ↓reduceIte]
 refine Ev.bind (elements_ev h) ?_
 have hc := h.con
 generalize conS [] l = c at hc ⊢
 have hl := hc.len
 refine Ev_st (L := fun k s i => mincover_Quasi.l0 k s c (c.length : Int) i nm ps ts) (n := c.length) (fun i => canT (enabS (validS nm ps ts) ps ts) c ts.length i) (fun i hi hs => ?_) ?_
 ·have hlen := canT_len (enabS (validS nm ps ts) ps ts) c ts.length i
  have hE := enab_len (validS nm ps ts) ps ts (c.getD i [])
  refine Ev.up ?_
  simp only [mincover_Quasi.l0, lt_int hi, nn, ↓reduceIte, rdL]
  refine Ev.bind (kEnabled_ev nm hp ht hT (hc.get hi)) ?_
  refine mq_row (by omega) (by omega) (fun t h => by rw [hlen]; exact enab_lt h) ?_
  rw [wrap_up hi (by omega : c.length ≤ 9223372036854775807)]
  exact hs
 ·have hlen := canT_len (enabS (validS nm ps ts) ps ts) c ts.length c.length
  refine Ev.up ?_
  simp only [mincover_Quasi.l0, Int.lt_irrefl, ↓reduceIte]
  have := filter_ev (ok := canT (enabS (validS nm ps ts) ps ts) c ts.length c.length) (by omega)
  rw [hlen] at this ⊢
  exact Ev.bind this (Ev.some _)
theorem rq_row {ok : List Bool} (hok : ok.length ≤ 1000000) {c : List (List Int)} {i : Int} {E : List Int} (hE : E.length ≤ 1000000) (he : ∀ t ∈ E, ∃ n : Nat, t = (n : Int) ∧ n < ok.length) {r : List Int} (h : Ev (fun k => r23_Quasi.l0 k c (setT ok E E.length) (wrap64 (i + 1)) nm ps ts) r) :
  Ev (fun k => r23_Quasi.l1 k c ok i E 0 nm ps ts) r := by
 refine Ev_st (L := fun k s j => r23_Quasi.l1 k c s i E j nm ps ts) (n := E.length) (fun j => setT ok E j) (fun j hj hs => ?_) ?_
 ·obtain ⟨n, e, hn⟩ := he _ (getD_mem E 0 hj)
  refine Ev.up ?_
  have hs' : Ev (fun k => r23_Quasi.l1 k c ((setT ok E j).set (E.getD j 0).toNat true) i E ((j + 1 : Nat) : Int) nm ps ts) r := hs
  simp only [r23_Quasi.l1, lt_int hj, nn, ↓reduceIte, rd_nat, e, setT_len, lt_int hn, wrap_up hj (by omega : E.length ≤ 9223372036854775807)] at hs' ⊢
  exact hs'
 ·refine Ev.up ?_
  simp only [r23_Quasi.l1, Int.lt_irrefl, ↓reduceIte]
  exact h
theorem rquasi_ev (hp : ps.length ≤ 1000000) (ht : ts.length ≤ 1000000) (hT : Thin ts) {l : List (List Int)} (h : FewS l) : Ev (fun k => r23_Quasi.f k nm ps ts l) (quasS nm ps ts l) := by
 unfold r23_Quasi.f quasS
 refine Ev.bind (refcon_ev l h.len h.row) ?_
 simp only [nn, Int.toNat_natCast, show ts.length ≤ 281474976710656 by omega, ↓reduceIte]
 have hc := h.con
 generalize conS [] l = c at hc ⊢
 have hl := hc.len
 refine Ev_st (L := fun k s i => r23_Quasi.l0 k c s i nm ps ts) (n := c.length) (fun i => canT (enabS (validS nm ps ts) ps ts) c ts.length i) (fun i hi hs => ?_) ?_
 ·have hlen := canT_len (enabS (validS nm ps ts) ps ts) c ts.length i
  have hE := enab_len (validS nm ps ts) ps ts (c.getD i [])
  refine Ev.up ?_
  simp only [r23_Quasi.l0, lt_int hi, nn, ↓reduceIte, rdL]
  refine Ev.bind (refEnabled_ev nm hp ht hT (hc.get hi)) ?_
  refine rq_row (by omega) (by omega) (fun t h => by rw [hlen]; exact enab_lt h) ?_
  rw [wrap_up hi (by omega : c.length ≤ 9223372036854775807)]
  exact hs
 ·have hlen := canT_len (enabS (validS nm ps ts) ps ts) c ts.length c.length
  refine Ev.up ?_
  simp only [r23_Quasi.l0, Int.lt_irrefl, ↓reduceIte]
  generalize canT (enabS (validS nm ps ts) ps ts) c ts.length c.length = ok at hlen ⊢
  rw [← hlen]
  have ho : ok.length ≤ 1000000 := by omega
  refine Ev_st (L := fun k s i => r23_Quasi.l2 k ok s i) (n := ok.length) (fun i => onT ok i) (fun i hi hs => ?_) (Ev.one (fun k => by simp only [r23_Quasi.l2, Int.lt_irrefl, ↓reduceIte]))
  have hl2 := onT_len ok i
  rw [onT_succ] at hs
  refine Ev.up ?_
  simp only [r23_Quasi.l2, lt_int hi, nn, ↓reduceIte, rdOf_nat, show (onT ok i).length < 17592186044416 by omega, wrap_up hi (by omega : ok.length ≤ 9223372036854775807)]
  by_cases x : ok.getD i false = true
  ·simp only [x, ↓reduceIte] at hs ⊢; exact hs
  ·simp only [x, Bool.false_eq_true, ↓reduceIte] at hs ⊢; exact hs
end
def smT (t : Tra) : Option Bool := if (t.f0.size : Int) > 20 ∨ (t.f1.length : Int) > 26 ∨ (t.f2.length : Int) > 26 ∨ (t.f3.length : Int) > 26 then some false else none
def smP (p : Pla) : Option Bool := if (p.f0.size : Int) > 20 then some false else none
def smallS (nm : ByteArray) (ps : List Pla) (ts : List Tra) : Bool :=
 if (ps.length : Int) > 26 ∨ (ts.length : Int) > 26 ∨ (nm.size : Int) > 20 then false else first (fun i => smP (ps.getD i zP)) (first (fun i => smT (ts.getD i zT)) true ts.length) ps.length
structure SmallN (nm : ByteArray) (ps : List Pla) (ts : List Tra) : Prop where
 p : ps.length ≤ 26
 t : ts.length ≤ 26
 n : nm.size ≤ 20
 pn : ∀ i, i < ps.length → (ps.getD i zP).f0.size ≤ 20
 tn : ∀ i, i < ts.length → (ts.getD i zT).f0.size ≤ 20 ∧ (ts.getD i zT).f1.length ≤ 26 ∧ (ts.getD i zT).f2.length ≤ 26 ∧ (ts.getD i zT).f3.length ≤ 26
theorem smallS_true {nm : ByteArray} {ps : List Pla} {ts : List Tra} (h : smallS nm ps ts = true) : SmallN nm ps ts := by
 unfold smallS at h
 by_cases c : (ps.length : Int) > 26 ∨ (ts.length : Int) > 26 ∨ (nm.size : Int) > 20
 ·rw [if_pos c] at h; cases h
 ·rw [if_neg c] at h
  rcases first_cases (fun i => smP (ps.getD i zP)) (first (fun i => smT (ts.getD i zT)) true ts.length) ps.length with ⟨h1, h2⟩ | ⟨j, h1, h2, _⟩
  ·rw [h1] at h
   rcases first_cases (fun i => smT (ts.getD i zT)) true ts.length with ⟨k1, k2⟩ | ⟨j, k1, k2, _⟩
   ·refine ⟨by omega, by omega, by omega, fun i hi => ?_, fun i hi => ?_⟩
    ·have := h2 i hi
     unfold smP at this
     by_cases d : ((ps.getD i zP).f0.size : Int) > 20
     ·rw [if_pos d] at this; cases this
     ·omega
    ·have := k2 i hi
     unfold smT at this
     by_cases d : ((ts.getD i zT).f0.size : Int) > 20 ∨ ((ts.getD i zT).f1.length : Int) > 26 ∨ ((ts.getD i zT).f2.length : Int) > 26 ∨ ((ts.getD i zT).f3.length : Int) > 26
     ·rw [if_pos d] at this; cases this
     ·omega
   ·rw [h] at k2
    unfold smT at k2
    by_cases d : ((ts.getD j zT).f0.size : Int) > 20 ∨ ((ts.getD j zT).f1.length : Int) > 26 ∨ ((ts.getD j zT).f2.length : Int) > 26 ∨ ((ts.getD j zT).f3.length : Int) > 26
    ·rw [if_pos d] at k2; cases k2
    ·rw [if_neg d] at k2; cases k2
  ·rw [h] at h2
   unfold smP at h2
   by_cases d : ((ps.getD j zP).f0.size : Int) > 20
   ·rw [if_pos d] at h2; cases h2
   ·rw [if_neg d] at h2; cases h2
theorem SmallN.thin {nm : ByteArray} {ps : List Pla} {ts : List Tra} (h : SmallN nm ps ts) : Thin ts := fun t ht => by
 obtain ⟨i, hi, rfl⟩ := List.getElem_of_mem ht
 have := h.tn i hi
 rw [List.getD_eq_getElem?_getD, List.getElem?_eq_getElem hi] at this
 obtain ⟨a, b, c, d⟩ := this
 exact ⟨Nat.le_trans a (by decide), Nat.le_trans b (by decide), Nat.le_trans c (by decide), Nat.le_trans d (by decide)⟩
def smallR (b : Bool) (nm : ByteArray) (ps : List Pla) (ts : List Tra) : ByteArray × List Pla × List Tra × Bool := if b = true then (nm, ps, ts, true) else (⟨#[]⟩, [], [], false)
theorem first_map {α β : Type} (f : α → β) (p : Nat → Option α) (e : α) (n : Nat) : first (fun i => (p i).map f) (f e) n = f (first p e n) := by
 rcases first_cases p e n with ⟨h1, h2⟩ | ⟨j, h1, h2, h3⟩
 · rw [h1]; exact first_all (fun j hj => by rw [h2 j hj]; rfl)
 · exact first_at j h1 (by rw [h2]; rfl) (fun m hm => by rw [h3 m hm]; rfl)
theorem small_ev (nm : ByteArray) (ps : List Pla) (ts : List Tra) : Ev (fun k => r09_Small.f k nm ps ts) (smallR (smallS nm ps ts) nm ps ts) := by
 have e0 : ∀ k, r09_Small.f k nm ps ts = r09_Small.j0 k (decide ((ps.length : Int) > 26 ∨ (ts.length : Int) > 26 ∨ (nm.size : Int) > 20)) nm ps ts := fun k => by
  unfold r09_Small.f
  rw [ite_or ((ts.length : Int) > 26) _ (fun b => r09_Small.j0 k b nm ps ts)]
  exact ite_or _ _ (fun b => r09_Small.j0 k b nm ps ts)
 refine Ev.congr e0 ?_
 unfold smallS
 by_cases c : (ps.length : Int) > 26 ∨ (ts.length : Int) > 26 ∨ (nm.size : Int) > 20
 ·rw [decide_eq_true c, if_pos c]
  exact Ev.one (fun k => by simp only [r09_Small.j0, ↓reduceIte]; rfl)
 ·rw [decide_eq_false c, if_neg c]
  refine Ev.step (f := fun k => r09_Small.l0 k ((0 : Nat) : Int) nm ps ts) (fun k => by simp only [r09_Small.j0]; rw [if_neg Bool.false_ne_true]; rfl) ?_
  have ht := Ev_loop (L := fun k i => r09_Small.l1 k (i : Int) nm ps ts) (n := ts.length) 1 (fun i => (smT (ts.getD i zT)).map (fun b => smallR b nm ps ts)) (e := smallR true nm ps ts)
   (fun k i hi => by
    simp only [r09_Small.l1]
    rw [if_pos (by omega), if_pos (by omega), rdT, wrap_up hi (by omega), ite_or2, ite_or2, ite_or2]
    unfold smT
    by_cases d : ((ts.getD i zT).f0.size : Int) > 20 ∨ ((ts.getD i zT).f1.length : Int) > 26 ∨ ((ts.getD i zT).f2.length : Int) > 26 ∨ ((ts.getD i zT).f3.length : Int) > 26
    ·rw [if_pos d, if_pos (by omega)]; rfl
    ·rw [if_neg d, if_neg (by omega)]; rfl)
   (Ev.one (fun k => by simp only [r09_Small.l1]; rw [if_neg (by omega)]; rfl))
  have hp := Ev_loop (L := fun k i => r09_Small.l0 k (i : Int) nm ps ts) (n := ps.length) 1 (fun i => (smP (ps.getD i zP)).map (fun b => smallR b nm ps ts)) (e := first (fun i => (smT (ts.getD i zT)).map (fun b => smallR b nm ps ts)) (smallR true nm ps ts) ts.length)
   (fun k i hi => by
    simp only [r09_Small.l0]
    rw [if_pos (by omega), if_pos (by omega), rdP, wrap_up hi (by omega)]
    unfold smP
    by_cases d : ((ps.getD i zP).f0.size : Int) > 20
    ·rw [if_pos d, if_pos d]; rfl
    ·rw [if_neg d, if_neg d]; rfl)
   (Ev.step (f := fun k => r09_Small.l1 k ((0 : Nat) : Int) nm ps ts) (fun k => by simp only [r09_Small.l0]; rw [if_neg (by omega)]; rfl) ht)
  rw [first_map (fun b => smallR b nm ps ts), first_map (fun b => smallR b nm ps ts)] at hp
  exact hp
end Go.Proofs.Ytaoogghpadifiaa.Pl
namespace Go.Proofs.Ytaoogghpadifiaa.Pure
open Go.RowKit Go.Proofs.Ytaoogghpadifiaa.P Go.Proofs.Ytaoogghpadifiaa.Pl Go.Proofs.YtaoogghpadifiaaW.PrintWords
theorem MincoverQuasis (nm : ByteArray) (ps : List Pla) (ts : List Tra) {w : Prop} (_h : w) (l : List (List Int)) {q : List Int → Prop} {w0 : Prop} (hl : w0 ∧ ∀ x ∈ l, x.length * 8 ≤ 140737488351232 ∧ q x) : ∃ k, petrinetlaw23_MincoverQuasis.f k nm ps ts l = some true := by
 refine Ev.rounds (g := fun k => petrinetlaw23_MincoverQuasis.f k nm ps ts l) ?_
 unfold petrinetlaw23_MincoverQuasis.f
 refine Ev.bind (small_ev nm ps ts) ?_
 have off : ∀ (nm : ByteArray) (ps : List Pla) (ts : List Tra), Ev (fun k => petrinetlaw23_MincoverQuasis.j0 k l true nm ps ts) true := fun nm ps ts => by
  refine Ev.up ?_
  simp only [petrinetlaw23_MincoverQuasis.j0, ↓reduceIte]
  exact alive'
 cases hs : smallS nm ps ts with
 | false =>
  simp only [smallR, Bool.false_eq_true, ↓reduceIte]
  exact off _ _ _
 | true =>
  have hS := smallS_true hs
  have hp : ps.length ≤ 1000000 := Nat.le_trans hS.p (by decide)
  have ht : ts.length ≤ 1000000 := Nat.le_trans hS.t (by decide)
  have hT := hS.thin
  simp only [smallR, ↓reduceIte]
  by_cases c : (l.length : Int) > 60
  ·simp only [c, decide_true]; exact off _ _ _
  ·simp only [c, decide_false]
   have h : FewS l := ⟨by omega, fun x hx => by have := (hl.2 x hx).1; omega⟩
   refine Ev.up ?_
   simp only [petrinetlaw23_MincoverQuasis.j0, Bool.false_eq_true, ↓reduceIte]
   refine Ev.bind (mquasi_ev hp ht hT h) ?_
   refine Ev.bind (rquasi_ev hp ht hT h) ?_
   have hq := quasS_len nm ps ts l
   refine Ev.bind (same04_ev _ _ (by omega)) ?_
   simp only [decide_true, ↓reduceIte]
   exact alive'
end Go.Proofs.Ytaoogghpadifiaa.Pure
