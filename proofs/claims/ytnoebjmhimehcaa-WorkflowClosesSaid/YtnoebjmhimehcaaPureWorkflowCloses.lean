/- The plain law of WorkflowCloses: for every net the law's function answers true, with rounds enough. -/
-- MERGED: the plain texts that it needs, in one
import Derived.Test.YtnoebjmhimehcaaPx14
import Derived.Test.YtnoebjmhimehcaaPx4
import Derived.Test.YtnoebjmhimehcaaVAll
import Derived.Test.YtnoebjmhimehcaaPx1
import Derived.Test.YtnoebjmhimehcaaPx3
import Derived.Laws.Strings
import Derived.WideShapes
import Derived.Test.YtnoebjmhimehcaaPx0
import Derived.Test.YtnoebjmhimehcaaPx2
set_option linter.unusedVariables false
set_option linter.unusedSimpArgs false
/- Plain lemmas: loops that count, lists read and written by whole numbers. -/
namespace Go.Proofs.Ytnoebjmhimehcaa.Pl
open Go.RowKit Go.Proofs.YtnoebjmhimehcaaW.PrintWords Go.Proofs.YtnoebjmhimehcaaW.PrintMore

theorem wrap_ok {x : Int} (h0 : -9223372036854775808 ≤ x) (h1 : x ≤ 9223372036854775807) : wrap64 x = x := by unfold wrap64; omega
theorem wrap_up {i n : Nat} (h : i < n) (hn : n ≤ 9223372036854775807) : wrap64 ((i : Int) + 1) = ((i + 1 : Nat) : Int) := by rw [wrap_ok (by omega) (by omega)]; omega

theorem Ev.uniq {α : Type} {g : Nat → Option α} {a b : α} (h : Ev g a) (k : Ev g b) : a = b := by
 obtain ⟨K, h⟩ := h
 obtain ⟨L, k⟩ := k
 have h1 := h (max K L) (Nat.le_max_left _ _)
 rw [k (max K L) (Nat.le_max_right _ _)] at h1
 exact (Option.some.inj h1).symm
theorem Ev.some {α : Type} (r : α) : Ev (fun _ => Option.some r) r := ⟨0, fun _ _ => rfl⟩
theorem Ev.one {α : Type} {g : Nat → Option α} {r : α} (h : ∀ k, g (k + 1) = Option.some r) : Ev g r := Ev.step h (Ev.some r)

/-- A loop that counts up to n: what is kept. -/
theorem Ev_for {σ ρ : Type} {l : Nat → σ → Int → Option ρ} {n : Nat} {inv : Nat → σ → Prop}
   (step : ∀ (i : Nat) s, i < n → inv i s → ∃ s', inv (i + 1) s' ∧ ∀ r, Ev (fun k => l k s' ((i + 1 : Nat) : Int)) r → Ev (fun k => l k s (i : Int)) r)
   {i : Nat} (hi : i ≤ n) {s : σ} (hs : inv i s) : ∃ s', inv n s' ∧ ∀ r, Ev (fun k => l k s' (n : Int)) r → Ev (fun k => l k s (i : Int)) r := by
 obtain ⟨d, hd⟩ : ∃ d, n - i = d := ⟨_, rfl⟩
 induction d generalizing i s with
 | zero =>
   have : i = n := by omega
   subst this
   exact ⟨s, hs, fun r h => h⟩
 | succ d ih =>
   obtain ⟨s1, h1, k1⟩ := step i s (by omega) hs
   obtain ⟨s2, h2, k2⟩ := ih (by omega) h1 (by omega)
   exact ⟨s2, h2, fun r h => k1 r (k2 r h)⟩



section
variable {α : Type}
theorem rd_nat (xs : List Int) (i : Nat) : rd xs (i : Int) = xs.getD i 0 := by simp [rd]
theorem rdOf_nat (d : α) (xs : List α) (i : Nat) : rdOf d xs (i : Int) = xs.getD i d := by simp [rdOf]
theorem getD_set (xs : List α) (i j : Nat) (x d : α) (h : i < xs.length) : (xs.set i x).getD j d = if j = i then x else xs.getD j d := by
 simp only [List.getD_eq_getElem?_getD, List.getElem?_set]
 by_cases e : i = j
 · subst e; simp [h]
 · simp [e, Ne.symm e]
theorem rdOf_set (d : α) (xs : List α) (i j : Int) (x : α) (h0 : 0 ≤ i) (h1 : i < xs.length) (j0 : 0 ≤ j) : rdOf d (xs.set i.toNat x) j = if j = i then x else rdOf d xs j := by
 unfold rdOf
 rw [getD_set _ _ _ _ _ (by omega)]
 by_cases e : j = i
 · subst e; simp
 · rw [if_neg e, if_neg (by omega)]
theorem rd_set (xs : List Int) (i j x : Int) (h0 : 0 ≤ i) (h1 : i < xs.length) (j0 : 0 ≤ j) : rd (xs.set i.toNat x) j = if j = i then x else rd xs j := rdOf_set (0 : Int) xs i j x h0 h1 j0
theorem rdOf_app (d : α) (xs : List α) (x : α) (j : Int) (j0 : 0 ≤ j) : rdOf d (xs ++ [x]) j = if j = xs.length then x else rdOf d xs j := by
 unfold rdOf
 simp only [List.getD_eq_getElem?_getD, List.getElem?_append]
 by_cases e : j = xs.length
 · subst e; simp
 · rw [if_neg e]
   by_cases h : j.toNat < xs.length
   · simp [h]
   · rw [if_neg h]
     have h2 : ¬ j.toNat - xs.length < 1 := by omega
     simp [List.getElem?_eq_none (show ([x] : List α).length ≤ j.toNat - xs.length by simp; omega), List.getElem?_eq_none (show xs.length ≤ j.toNat by omega)]
theorem rd_app (xs : List Int) (x j : Int) (j0 : 0 ≤ j) : rd (xs ++ [x]) j = if j = xs.length then x else rd xs j := rdOf_app (0 : Int) xs x j j0
theorem rd_mem {xs : List Int} {i : Int} (h0 : 0 ≤ i) (h1 : i < xs.length) : rd xs i ∈ xs := by
 unfold rd
 rw [List.getD_eq_getElem?_getD, List.getElem?_eq_getElem (show i.toNat < xs.length by omega)]
 exact List.getElem_mem _
theorem mem_rd {xs : List Int} {x : Int} (h : x ∈ xs) : ∃ i : Nat, i < xs.length ∧ rd xs (i : Int) = x := by
 obtain ⟨i, hi, he⟩ := List.getElem_of_mem h
 exact ⟨i, hi, by rw [rd_nat, List.getD_eq_getElem?_getD, List.getElem?_eq_getElem hi]; exact he⟩
theorem ext_rd {a b : List Int} (hl : a.length = b.length) (h : ∀ i : Nat, i < a.length → rd a (i : Int) = rd b (i : Int)) : a = b := by
 refine List.ext_getElem hl (fun i h1 h2 => ?_)
 have := h i h1
 rw [rd_nat, rd_nat, List.getD_eq_getElem?_getD, List.getD_eq_getElem?_getD, List.getElem?_eq_getElem h1, List.getElem?_eq_getElem h2] at this
 exact this
theorem ext_rdOf (d : α) {a b : List α} (hl : a.length = b.length) (h : ∀ i : Nat, i < a.length → rdOf d a (i : Int) = rdOf d b (i : Int)) : a = b := by
 refine List.ext_getElem hl (fun i h1 h2 => ?_)
 have := h i h1
 rw [rdOf_nat, rdOf_nat, List.getD_eq_getElem?_getD, List.getD_eq_getElem?_getD, List.getElem?_eq_getElem h1, List.getElem?_eq_getElem h2] at this
 exact this
end
end Go.Proofs.Ytnoebjmhimehcaa.Pl
/- Plain lemmas: loops that count through a list, the first place that ends them. -/
namespace Go.Proofs.Ytnoebjmhimehcaa.Pl
open Go.RowKit Go.Proofs.YtnoebjmhimehcaaW.PrintWords Go.Proofs.YtnoebjmhimehcaaW.PrintMore

/-- The first answer of p from place i on, through d places; e if there is none. -/
def firstOr {ρ : Type} (p : Nat → Option ρ) (e : ρ) : Nat → Nat → ρ
 | _, 0 => e
 | i, d + 1 => match p i with | some r => r | none => firstOr p e (i + 1) d
theorem firstOr_congr {ρ : Type} {p q : Nat → Option ρ} {e : ρ} : ∀ (d i : Nat), (∀ j, i ≤ j → j < i + d → p j = q j) → firstOr p e i d = firstOr q e i d
 | 0, _, _ => rfl
 | d + 1, i, h => by
   unfold firstOr
   rw [h i (Nat.le_refl _) (by omega)]
   cases q i with
   | some r => rfl
   | none => exact firstOr_congr d (i + 1) (fun j h1 h2 => h j (by omega) (by omega))
theorem firstOr_cases {ρ : Type} (p : Nat → Option ρ) (e : ρ) : ∀ (d i : Nat), (firstOr p e i d = e ∧ ∀ j, i ≤ j → j < i + d → p j = none) ∨ ∃ j, i ≤ j ∧ j < i + d ∧ p j = some (firstOr p e i d) ∧ ∀ m, i ≤ m → m < j → p m = none
 | 0, i => .inl ⟨rfl, fun j h1 h2 => by omega⟩
 | d + 1, i => by
   unfold firstOr
   cases h : p i with
   | some r => exact .inr ⟨i, Nat.le_refl _, by omega, h, fun m h1 h2 => by omega⟩
   | none =>
     rcases firstOr_cases p e d (i + 1) with ⟨h1, h2⟩ | ⟨j, h1, h2, h3, h4⟩
     · refine .inl ⟨h1, fun j j1 j2 => ?_⟩
       by_cases hj : j = i
       · rw [hj]; exact h
       · exact h2 j (by omega) (by omega)
     · refine .inr ⟨j, by omega, by omega, h3, fun m m1 m2 => ?_⟩
       by_cases hm : m = i
       · rw [hm]; exact h
       · exact h4 m (by omega) m2
theorem firstOr_all {ρ : Type} {p : Nat → Option ρ} {e : ρ} : ∀ {d i : Nat}, (∀ j, i ≤ j → j < i + d → p j = none) → firstOr p e i d = e
 | 0, _, _ => rfl
 | d + 1, i, h => by
   unfold firstOr
   rw [h i (Nat.le_refl _) (by omega)]
   exact firstOr_all (fun j h1 h2 => h j (by omega) (by omega))
theorem firstOr_at {ρ : Type} {p : Nat → Option ρ} {e r : ρ} : ∀ {d i : Nat} (j : Nat), i ≤ j → j < i + d → p j = some r → (∀ m, i ≤ m → m < j → p m = none) → firstOr p e i d = r
 | 0, _, _, h1, h2, _, _ => by omega
 | d + 1, i, j, h1, h2, h3, h4 => by
   unfold firstOr
   by_cases hj : j = i
   · subst hj; rw [h3]
   · rw [h4 i (Nat.le_refl _) (by omega)]
     exact firstOr_at j (by omega) (by omega) h3 (fun m m1 m2 => h4 m (by omega) m2)
/-- The first answer of p below n; e if there is none. -/
def first {ρ : Type} (p : Nat → Option ρ) (e : ρ) (n : Nat) : ρ := firstOr p e 0 n
theorem first_congr {ρ : Type} {p q : Nat → Option ρ} {e : ρ} {n : Nat} (h : ∀ j, j < n → p j = q j) : first p e n = first q e n := firstOr_congr n 0 (fun j _ h2 => h j (by omega))
theorem first_cases {ρ : Type} (p : Nat → Option ρ) (e : ρ) (n : Nat) : (first p e n = e ∧ ∀ j, j < n → p j = none) ∨ ∃ j, j < n ∧ p j = some (first p e n) ∧ ∀ m, m < j → p m = none := by
 rcases firstOr_cases p e n 0 with ⟨h1, h2⟩ | ⟨j, _, h2, h3, h4⟩
 · exact .inl ⟨h1, fun j h => h2 j (Nat.zero_le _) (by omega)⟩
 · exact .inr ⟨j, by omega, h3, fun m h => h4 m (Nat.zero_le _) h⟩
theorem first_all {ρ : Type} {p : Nat → Option ρ} {e : ρ} {n : Nat} (h : ∀ j, j < n → p j = none) : first p e n = e := firstOr_all (fun j _ h2 => h j (by omega))
theorem first_at {ρ : Type} {p : Nat → Option ρ} {e r : ρ} {n : Nat} (j : Nat) (h2 : j < n) (h3 : p j = some r) (h4 : ∀ m, m < j → p m = none) : first p e n = r := firstOr_at j (Nat.zero_le _) (by omega) h3 (fun m _ h => h4 m h)

/-- A loop that counts up to n and ends where p answers. -/
theorem Ev_firstFrom {ρ : Type} {L : Nat → Nat → Option ρ} {n : Nat} (p : Nat → Option ρ) {e : ρ}
   (go : ∀ i, i < n → p i = none → ∀ r, Ev (fun k => L k (i + 1)) r → Ev (fun k => L k i) r)
   (stop : ∀ i r, i < n → p i = some r → Ev (fun k => L k i) r) (fin : (∀ j, j < n → p j = none) → Ev (fun k => L k n) e) :
   ∀ (d i : Nat), i + d = n → (∀ j, j < i → p j = none) → Ev (fun k => L k i) (firstOr p e i d) := by
 intro d
 induction d with
 | zero =>
   intro i hi hb
   obtain rfl : i = n := by omega
   exact fin hb
 | succ d ih =>
   intro i hi hb
   unfold firstOr
   cases h : p i with
   | some r => exact stop i r (by omega) h
   | none => exact go i (by omega) h _ (ih (i + 1) (by omega) (fun j hj => by
       by_cases e : j = i
       · rw [e]; exact h
       · exact hb j (by omega)))
theorem Ev_first' {ρ : Type} {L : Nat → Nat → Option ρ} {n : Nat} (p : Nat → Option ρ) {e : ρ}
   (go : ∀ i, i < n → p i = none → ∀ r, Ev (fun k => L k (i + 1)) r → Ev (fun k => L k i) r)
   (stop : ∀ i r, i < n → p i = some r → Ev (fun k => L k i) r) (fin : (∀ j, j < n → p j = none) → Ev (fun k => L k n) e) : Ev (fun k => L k 0) (first p e n) :=
 Ev_firstFrom p go stop fin n 0 (by omega) (fun j h => by omega)
theorem Ev_first {ρ : Type} {L : Nat → Nat → Option ρ} {n : Nat} (p : Nat → Option ρ) {e : ρ}
   (go : ∀ i, i < n → p i = none → ∀ r, Ev (fun k => L k (i + 1)) r → Ev (fun k => L k i) r)
   (stop : ∀ i r, i < n → p i = some r → Ev (fun k => L k i) r) (fin : Ev (fun k => L k n) e) : Ev (fun k => L k 0) (first p e n) :=
 Ev_first' p go stop (fun _ => fin)
/-- A loop that counts up to n. -/
theorem Ev_up {ρ : Type} {L : Nat → Nat → Option ρ} {n : Nat} {r : ρ}
   (go : ∀ i, i < n → Ev (fun k => L k (i + 1)) r → Ev (fun k => L k i) r) (fin : Ev (fun k => L k n) r) : Ev (fun k => L k 0) r := by
 have h : ∀ d i, i + d = n → Ev (fun k => L k i) r := by
   intro d
   induction d with
   | zero =>
     intro i hi
     obtain rfl : i = n := by omega
     exact fin
   | succ d ih => intro i hi; exact go i (by omega) (ih (i + 1) (by omega))
 exact h n 0 (by omega)

theorem take_map_succ {α β : Type} (l : List α) (f : α → β) (z : α) {i : Nat} (h : i < l.length) : (l.take (i + 1)).map f = (l.take i).map f ++ [f (l.getD i z)] := by
 rw [List.take_succ_eq_append_getElem h, List.map_append, List.getD_eq_getElem?_getD, List.getElem?_eq_getElem h]
 rfl
theorem getD_mem {α : Type} (l : List α) (z : α) {i : Nat} (h : i < l.length) : l.getD i z ∈ l := by
 rw [List.getD_eq_getElem?_getD, List.getElem?_eq_getElem h]
 exact List.getElem_mem h
theorem filter_range_succ (q : Nat → Bool) (i : Nat) : (List.range (i + 1)).filter q = if q i = true then (List.range i).filter q ++ [i] else (List.range i).filter q := by
 rw [List.range_succ, List.filter_append]
 by_cases h : q i = true
 · rw [if_pos h, List.filter_cons_of_pos h]; rfl
 · rw [if_neg h, List.filter_cons_of_neg h]; simp
theorem Ev.stepn {α : Type} {g f : Nat → Option α} {r : α} (m : Nat) (h : ∀ k, g (k + m) = f k) (hf : Ev f r) : Ev g r := by
 obtain ⟨K, hK⟩ := hf
 exact ⟨K + m, fun k hk => by obtain ⟨d, rfl⟩ : ∃ d, k = d + m := ⟨k - m, by omega⟩; rw [h]; exact hK d (by omega)⟩
theorem ite_or {α : Type} (c1 c2 : Prop) [Decidable c1] [Decidable c2] (g : Bool → α) : (if c1 then g true else g (decide c2)) = g (decide (c1 ∨ c2)) := by
 by_cases h : c1
 · rw [if_pos h, decide_eq_true (Or.inl h)]
 · rw [if_neg h]; congr 1; simp [h]
theorem ite_or2 {α : Type} (c1 c2 : Prop) [Decidable c1] [Decidable c2] (a b : α) : (if c1 then a else if c2 then a else b) = if c1 ∨ c2 then a else b := by
 by_cases h : c1
 · rw [if_pos h, if_pos (Or.inl h)]
 · by_cases h2 : c2
   · rw [if_neg h, if_pos h2, if_pos (Or.inr h2)]
   · rw [if_neg h, if_neg h2, if_neg (fun h3 => h3.elim h h2)]
theorem of_ite_none {α : Type} {c : Prop} [Decidable c] {a : α} (h : (if c then none else some a) = none) : c := Classical.byContradiction fun hn => by rw [if_neg hn] at h; cases h
theorem of_ite_some {α : Type} {c : Prop} [Decidable c] {a r : α} (h : (if c then none else some a) = some r) : ¬ c ∧ a = r := by
 by_cases hc : c
 · rw [if_pos hc] at h; cases h
 · rw [if_neg hc] at h; exact ⟨hc, Option.some.inj h⟩
/-- What a round answers: an end, or what follows. -/
def stepO {ρ : Type} (a : Option ρ) (b : Option ρ) : Option ρ := match a with | some r => some r | none => b
/-- A loop whose round is one equation. -/
theorem Ev_loop {ρ : Type} {L : Nat → Nat → Option ρ} {n : Nat} (m : Nat) (p : Nat → Option ρ) {e : ρ}
   (step : ∀ k i, i < n → L (k + m) i = stepO (p i) (L k (i + 1))) (fin : Ev (fun k => L k n) e) : Ev (fun k => L k 0) (first p e n) :=
 Ev_first p (fun i hi hp r hr => Ev.stepn m (fun k => by rw [step k i hi, hp]; rfl) hr) (fun i r hi hp => Ev.stepn m (f := fun _ => some r) (fun k => by rw [step k i hi, hp]; rfl) (Ev.some r)) fin
theorem first_any {ρ : Type} (c : Nat → Prop) [DecidablePred c] (a e : ρ) (n : Nat) : first (fun j => if c j then some a else none) e n = if ∃ j, j < n ∧ c j then a else e := by
 rcases first_cases (fun j => if c j then some a else none) e n with ⟨h1, h2⟩ | ⟨j, h1, h2, h3⟩
 · rw [h1, if_neg]
   rintro ⟨j, hj, hc⟩
   have := h2 j hj
   simp [hc] at this
 · have hc : c j := by
     refine Classical.byContradiction fun hn => ?_
     simp [hn] at h2
   rw [if_pos ⟨j, h1, hc⟩]
   simp [hc] at h2
   exact h2.symm
end Go.Proofs.Ytnoebjmhimehcaa.Pl
/- The check of fixed results of chapter 43. -/
namespace Go.Proofs.Ytnoebjmhimehcaa.Pure
open Go.RowKit Go.Proofs.Ytnoebjmhimehcaa.P Go.Proofs.Ytnoebjmhimehcaa.Pl Go.Proofs.YtnoebjmhimehcaaW.PrintWords
theorem lives : Ev (fun k => petrinetlaw43_lives.f k) true := Ev.of (fun k => petrinetlaw43_lives.mono k) (k := 60) (by decide +kernel)
end Go.Proofs.Ytnoebjmhimehcaa.Pure
/- What a net's check answers, told plainly; and that the program's check answers it. -/
namespace Go.Proofs.Ytnoebjmhimehcaa.Pl
open Go.RowKit Go.Proofs.Ytnoebjmhimehcaa.P Go.Proofs.YtnoebjmhimehcaaW.PrintWords Go.Proofs.YtnoebjmhimehcaaW.PrintMore

abbrev Pla := S52
abbrev Tra := S48
abbrev Ac := S55
abbrev zP : Pla := z52
abbrev zT : Tra := z48
abbrev zA : Ac := z55
theorem rdP (xs : List Pla) (i : Nat) : rd_T52 xs (i : Int) = xs.getD i zP := by simp [rd_T52]
theorem rdT (xs : List Tra) (i : Nat) : rd_T48 xs (i : Int) = xs.getD i zT := by simp [rd_T48]
theorem rdA (xs : List Ac) (i : Nat) : rd_T55 xs (i : Int) = xs.getD i zA := by simp [rd_T55]
theorem rdAs (xs : List (List Ac)) (i : Nat) : rd_L4 xs (i : Int) = xs.getD i [] := by simp [rd_L4]

/-! ### arcs -/
def arcE (np : Int) (l : List Ac) (i : Nat) : Option Int :=
 if (l.getD i zA).f0 < 0 ∨ (l.getD i zA).f0 ≥ np then some 7 else if 0 < i ∧ (l.getD (i - 1) zA).f0 ≥ (l.getD i zA).f0 then some 8 else if (l.getD i zA).f1 < 1 ∨ (l.getD i zA).f1 > 99 then some 9 else none
def arcsE (np : Int) (l : List Ac) : Int := first (arcE np l) 0 l.length
theorem checkArcs_step (k : Nat) (l : List Ac) (np : Int) (i : Nat) (hi : i < l.length) (hl : l.length ≤ 1000000) :
   net_checkArcs.l0 (k + 3) l np l (l.length : Int) (i : Int) = stepO (arcE np l i) (net_checkArcs.l0 k l np l (l.length : Int) ((i + 1 : Nat) : Int)) := by
 simp only [net_checkArcs.l0]
 rw [if_pos (by omega), if_pos (by omega), if_pos (by omega), rdA, ite_or _ _ (fun b => net_checkArcs.j1 (k + 2) l np (i : Int) l (l.length : Int) (i : Int) b (l.getD i zA).f0 (l.getD i zA).f1)]
 unfold arcE
 by_cases c1 : (l.getD i zA).f0 < 0 ∨ (l.getD i zA).f0 ≥ np
 · rw [decide_eq_true c1, if_pos c1]; simp only [net_checkArcs.j1, ↓reduceIte, stepO]
 · rw [decide_eq_false c1, if_neg c1]
   have e2 : ∀ b : Bool, net_checkArcs.j2 (k + 1) l np l (l.length : Int) (i : Int) b (l.getD i zA).f0 (l.getD i zA).f1 = if b = true then some 8 else if (l.getD i zA).f1 < 1 ∨ (l.getD i zA).f1 > 99 then some 9 else net_checkArcs.l0 k l np l (l.length : Int) ((i + 1 : Nat) : Int) := by
     intro b
     simp only [net_checkArcs.j2]
     rw [wrap_up hi (by omega), ite_or2]
   simp only [net_checkArcs.j1]
   rw [if_neg Bool.false_ne_true]
   by_cases c2 : 0 < i
   · rw [if_pos (by omega), if_pos (by rw [wrap_ok (by omega) (by omega)]; omega), if_pos (by rw [wrap_ok (by omega) (by omega)]; omega), wrap_ok (x := (i : Int) - 1) (by omega) (by omega), show ((i : Int) - 1) = ((i - 1 : Nat) : Int) by omega, rdA, e2]
     by_cases c3 : (l.getD (i - 1) zA).f0 ≥ (l.getD i zA).f0
     · rw [decide_eq_true c3, if_pos rfl, if_pos ⟨c2, c3⟩]; rfl
     · rw [decide_eq_false c3, if_neg Bool.false_ne_true, if_neg (show ¬ (0 < i ∧ (l.getD (i - 1) zA).f0 ≥ (l.getD i zA).f0) from fun h => c3 h.2)]
       by_cases d : (l.getD i zA).f1 < 1 ∨ (l.getD i zA).f1 > 99
       · rw [if_pos d, if_pos d]; rfl
       · rw [if_neg d, if_neg d]; rfl
   · rw [if_neg (by omega), e2, if_neg Bool.false_ne_true, if_neg (show ¬ (0 < i ∧ (l.getD (i - 1) zA).f0 ≥ (l.getD i zA).f0) from fun h => c2 h.1)]
     by_cases d : (l.getD i zA).f1 < 1 ∨ (l.getD i zA).f1 > 99
     · rw [if_pos d, if_pos d]; rfl
     · rw [if_neg d, if_neg d]; rfl
theorem checkArcs_ev (l : List Ac) (np : Int) (hl : l.length ≤ 1000000) : Ev (fun k => net_checkArcs.f k l np) (arcsE np l) :=
 Ev_loop (L := fun k i => net_checkArcs.l0 k l np l (l.length : Int) (i : Int)) 3 (arcE np l) (fun k i hi => checkArcs_step k l np i hi hl)
   (Ev.one (fun k => by simp only [net_checkArcs.l0]; rw [if_neg (by omega)]))

/-! ### a transition -/
def transE (np : Int) (t : Tra) : Int := if t.f4 < 0 ∨ t.f4 > 9 then 1 else if arcsE np t.f1 ≠ 0 then arcsE np t.f1 else if arcsE np t.f2 ≠ 0 then arcsE np t.f2 else arcsE np t.f3
def ThinT (t : Tra) : Prop := t.f0.size ≤ 1000000 ∧ t.f1.length ≤ 1000000 ∧ t.f2.length ≤ 1000000 ∧ t.f3.length ≤ 1000000
theorem checkTrans_ev (t : Tra) (np : Int) (ht : ThinT t) : Ev (fun k => net_checkTrans.f k t.f0 t.f1 t.f2 t.f3 t.f4 np) (transE np t) := by
 have e0 : ∀ k, net_checkTrans.f k t.f0 t.f1 t.f2 t.f3 t.f4 np = net_checkTrans.j0 k np (decide (t.f4 < 0 ∨ t.f4 > 9)) t.f0 t.f1 t.f2 t.f3 t.f4 := fun k => by
   unfold net_checkTrans.f
   exact ite_or _ _ (fun b => net_checkTrans.j0 k np b t.f0 t.f1 t.f2 t.f3 t.f4)
 refine Ev.congr e0 ?_
 unfold transE
 by_cases c : t.f4 < 0 ∨ t.f4 > 9
 · rw [decide_eq_true c, if_pos c]
   exact Ev.one (fun k => by simp only [net_checkTrans.j0, ↓reduceIte])
 · rw [decide_eq_false c, if_neg c]
   refine Ev.step (f := fun k => net_checkTrans.l0 k np [t.f1, t.f2, t.f3] 3 ((0 : Nat) : Int)) (fun k => by simp only [net_checkTrans.j0]; rw [if_neg Bool.false_ne_true]; rfl) ?_
   have hm : ∀ i, i < 3 → ([t.f1, t.f2, t.f3].getD i []).length ≤ 1000000 := fun i hi => by
     obtain ⟨_, h1, h2, h3⟩ := ht
     rcases i with _ | _ | _ | i
     · exact h1
     · exact h2
     · exact h3
     · omega
   have h := Ev_first (L := fun k i => net_checkTrans.l0 k np [t.f1, t.f2, t.f3] 3 (i : Int)) (n := 3) (fun i => if arcsE np ([t.f1, t.f2, t.f3].getD i []) = 0 then none else some (arcsE np ([t.f1, t.f2, t.f3].getD i []))) (e := 0)
     (fun i hi hp r hr => Ev.step (f := fun k => (net_checkArcs.f k ([t.f1, t.f2, t.f3].getD i []) np).bind fun e => if e = 0 then net_checkTrans.l0 k np [t.f1, t.f2, t.f3] 3 ((i + 1 : Nat) : Int) else some e) (fun k => by
       simp only [net_checkTrans.l0]
       rw [if_pos (by omega), if_pos (by omega), if_pos (by simp only [List.length_cons, List.length_nil]; omega), rdAs, wrap_up hi (by omega)]) (by
         refine Ev.bind (checkArcs_ev _ np (hm i hi)) ?_
         have h0 : arcsE np ([t.f1, t.f2, t.f3].getD i []) = 0 := of_ite_none hp
         simp only [h0, ↓reduceIte]
         exact hr))
     (fun i r hi hp => Ev.step (f := fun k => (net_checkArcs.f k ([t.f1, t.f2, t.f3].getD i []) np).bind fun e => if e = 0 then net_checkTrans.l0 k np [t.f1, t.f2, t.f3] 3 ((i + 1 : Nat) : Int) else some e) (fun k => by
       simp only [net_checkTrans.l0]
       rw [if_pos (by omega), if_pos (by omega), if_pos (by simp only [List.length_cons, List.length_nil]; omega), rdAs, wrap_up hi (by omega)]) (by
         refine Ev.bind (checkArcs_ev _ np (hm i hi)) ?_
         obtain ⟨h0, rfl⟩ := of_ite_some hp
         simp only [h0, ↓reduceIte]
         exact Ev.some _))
     (Ev.one (fun k => by simp only [net_checkTrans.l0]; rw [if_neg (by omega)]))
   have e3 : first (fun i => if arcsE np ([t.f1, t.f2, t.f3].getD i []) = 0 then none else some (arcsE np ([t.f1, t.f2, t.f3].getD i []))) 0 3 = if arcsE np t.f1 ≠ 0 then arcsE np t.f1 else if arcsE np t.f2 ≠ 0 then arcsE np t.f2 else arcsE np t.f3 := by
     unfold first firstOr firstOr firstOr firstOr
     simp only [List.getD_cons_zero, List.getD_cons_succ]
     by_cases h1 : arcsE np t.f1 = 0
     · by_cases h2 : arcsE np t.f2 = 0
       · by_cases h3 : arcsE np t.f3 = 0 <;> simp [h1, h2, h3]
       · simp [h1, h2]
     · simp [h1]
   rw [← e3]
   exact h

/-! ### the check -/
def nmE (ns : List ByteArray) (s : ByteArray) : Int := if nameB s = true then (if (ns.any fun o => o.toList == s.toList) = true then 6 else 0) else 5
def plR (ps : List Pla) (i : Nat) : Int := if nmE ((ps.take i).map (·.f0)) (ps.getD i zP).f0 ≠ 0 then nmE ((ps.take i).map (·.f0)) (ps.getD i zP).f0 else placeE (ps.getD i zP).f1 (ps.getD i zP).f2
def trR (ps : List Pla) (ts : List Tra) (i : Nat) : Int := if nmE (ps.map (·.f0) ++ (ts.take i).map (·.f0)) (ts.getD i zT).f0 ≠ 0 then nmE (ps.map (·.f0) ++ (ts.take i).map (·.f0)) (ts.getD i zT).f0 else transE (ps.length : Int) (ts.getD i zT)
def pF (ps : List Pla) (i : Nat) : Option (Int × Int) := if plR ps i = 0 then none else some (plR ps i, (i : Int))
def tF (ps : List Pla) (ts : List Tra) (i : Nat) : Option (Int × Int) := if trR ps ts i = 0 then none else some (trR ps ts i, (ps.length : Int) + (i : Int))
def checkS (nm : ByteArray) (ps : List Pla) (ts : List Tra) : Int × Int :=
 if nameB nm = true then (if (ps.length : Int) < 1 ∨ (24 : Int) < (ps.length : Int) ∨ (24 : Int) < (ts.length : Int) then (2, 0) else first (pF ps) (first (tF ps ts) (0, 0) ts.length) ps.length) else (5, 0)
def validS (nm : ByteArray) (ps : List Pla) (ts : List Tra) : Bool := (checkS nm ps ts).1 == 0
/-- What is asked of a net's size for its parts to be told. -/
def Thin (ts : List Tra) : Prop := ∀ t ∈ ts, ThinT t
theorem Thin.at {ts : List Tra} (h : Thin ts) {i : Nat} (hi : i < ts.length) : ThinT (ts.getD i zT) := h _ (getD_mem ts zT hi)
theorem addM_ev {ns : List ByteArray} {s : ByteArray} (h : ns.length < 1000000) : addM ns s = some (nmE ns s, if nmE ns s = 0 then ns ++ [s] else ns) := by
 unfold addM nmE
 by_cases h1 : nameB s = true
 · by_cases h2 : (ns.any fun o => o.toList == s.toList) = true
   · simp [h1, h2]
   · rw [if_pos h1, if_neg h2, if_pos h, if_pos h1, if_neg h2]; simp
 · simp [h1]
theorem check_ts {ps : List Pla} {ts : List Tra} (hp : ps.length ≤ 24) (ht : ts.length ≤ 24) (hT : Thin ts) : Ev (fun k => net_Check.l1 k ps ts (ps.map (·.f0)) 0) (first (tF ps ts) (0, 0) ts.length) := by
 have hlen : ∀ i, i ≤ ts.length → (ps.map (·.f0) ++ (ts.take i).map (·.f0)).length < 1000000 := fun i hi => by simp only [List.length_append, List.length_map, List.length_take]; omega
 have stp : ∀ i, i < ts.length → ∀ k, net_Check.l1 (k + 1) ps ts (ps.map (·.f0) ++ (ts.take i).map (·.f0)) (i : Int) = if nmE (ps.map (·.f0) ++ (ts.take i).map (·.f0)) (ts.getD i zT).f0 = 0 then ((net_checkTrans.f k (ts.getD i zT).f0 (ts.getD i zT).f1 (ts.getD i zT).f2 (ts.getD i zT).f3 (ts.getD i zT).f4 (ps.length : Int)).bind fun e => if e = 0 then net_Check.l1 k ps ts (ps.map (·.f0) ++ (ts.take (i + 1)).map (·.f0)) ((i + 1 : Nat) : Int) else some (e, (ps.length : Int) + (i : Int))) else some (nmE (ps.map (·.f0) ++ (ts.take i).map (·.f0)) (ts.getD i zT).f0, (ps.length : Int) + (i : Int)) := fun i hi k => by
   simp only [net_Check.l1]
   rw [if_pos (by omega), if_pos (by omega), rdT, addM_ev (hlen i (by omega)), wrap_up hi (by omega), wrap_ok (x := (ps.length : Int) + (i : Int)) (by omega) (by omega)]
   simp only [Option.bind_some]
   by_cases h0 : nmE (ps.map (·.f0) ++ (ts.take i).map (·.f0)) (ts.getD i zT).f0 = 0
   · rw [if_pos h0, if_pos h0, if_pos h0, List.append_assoc, ← take_map_succ ts (fun t => t.f0) zT hi]
   · rw [if_neg h0, if_neg h0]
 have h := Ev_first (L := fun k i => net_Check.l1 k ps ts (ps.map (·.f0) ++ (ts.take i).map (·.f0)) (i : Int)) (n := ts.length) (tF ps ts) (e := ((0 : Int), (0 : Int)))
   (fun i hi hf r hr => Ev.step (stp i hi) (by
     have hz : trR ps ts i = 0 := of_ite_none hf
     by_cases h0 : nmE (ps.map (·.f0) ++ (ts.take i).map (·.f0)) (ts.getD i zT).f0 = 0
     · unfold trR at hz
       rw [if_neg (by simpa using h0)] at hz
       simp only [h0, ↓reduceIte]
       refine Ev.bind (checkTrans_ev _ _ (hT.at hi)) ?_
       simp only [hz, ↓reduceIte]
       exact hr
     · unfold trR at hz
       rw [if_pos h0] at hz
       exact absurd hz h0))
   (fun i r hi hf => Ev.step (stp i hi) (by
     obtain ⟨hz, rfl⟩ := of_ite_some hf
     by_cases h0 : nmE (ps.map (·.f0) ++ (ts.take i).map (·.f0)) (ts.getD i zT).f0 = 0
     · have e : trR ps ts i = transE (ps.length : Int) (ts.getD i zT) := by unfold trR; rw [if_neg (by simpa using h0)]
       rw [e] at hz ⊢
       simp only [h0, ↓reduceIte]
       refine Ev.bind (checkTrans_ev _ _ (hT.at hi)) ?_
       simp only [hz, ↓reduceIte]
       exact Ev.some _
     · have e : trR ps ts i = nmE (ps.map (·.f0) ++ (ts.take i).map (·.f0)) (ts.getD i zT).f0 := by unfold trR; rw [if_pos h0]
       rw [e]
       simp only [h0, ↓reduceIte]
       exact Ev.some _))
   (Ev.one (fun k => by simp only [net_Check.l1]; rw [if_neg (by omega)]))
 simpa using h
theorem check_ps {ps : List Pla} {ts : List Tra} (hp : ps.length ≤ 24) (ht : ts.length ≤ 24) (hT : Thin ts) : Ev (fun k => net_Check.l0 k ps ts [] 0) (first (pF ps) (first (tF ps ts) (0, 0) ts.length) ps.length) := by
 have hlen : ∀ i, i ≤ ps.length → ((ps.take i).map (·.f0)).length < 1000000 := fun i hi => by simp only [List.length_map, List.length_take]; omega
 have stp : ∀ i, i < ps.length → ∀ k, net_Check.l0 (k + 1) ps ts ((ps.take i).map (·.f0)) (i : Int) = if nmE ((ps.take i).map (·.f0)) (ps.getD i zP).f0 = 0 then (if placeE (ps.getD i zP).f1 (ps.getD i zP).f2 = 0 then net_Check.l0 k ps ts ((ps.take (i + 1)).map (·.f0)) ((i + 1 : Nat) : Int) else some (placeE (ps.getD i zP).f1 (ps.getD i zP).f2, (i : Int))) else some (nmE ((ps.take i).map (·.f0)) (ps.getD i zP).f0, (i : Int)) := fun i hi k => by
   simp only [net_Check.l0]
   rw [if_pos (by omega), if_pos (by omega), rdP, addM_ev (hlen i (by omega)), wrap_up hi (by omega)]
   simp only [Option.bind_some, net_checkPlace.f]
   by_cases h0 : nmE ((ps.take i).map (·.f0)) (ps.getD i zP).f0 = 0
   · rw [if_pos h0, if_pos h0, if_pos h0, ← take_map_succ ps (fun t => t.f0) zP hi]
   · rw [if_neg h0, if_neg h0]
 have h := Ev_first (L := fun k i => net_Check.l0 k ps ts ((ps.take i).map (·.f0)) (i : Int)) (n := ps.length) (pF ps) (e := first (tF ps ts) (0, 0) ts.length)
   (fun i hi hf r hr => Ev.step (stp i hi) (by
     have hz : plR ps i = 0 := of_ite_none hf
     by_cases h0 : nmE ((ps.take i).map (·.f0)) (ps.getD i zP).f0 = 0
     · unfold plR at hz
       rw [if_neg (by simpa using h0)] at hz
       simp only [h0, hz, ↓reduceIte]
       exact hr
     · unfold plR at hz
       rw [if_pos h0] at hz
       exact absurd hz h0))
   (fun i r hi hf => Ev.step (stp i hi) (by
     obtain ⟨hz, rfl⟩ := of_ite_some hf
     by_cases h0 : nmE ((ps.take i).map (·.f0)) (ps.getD i zP).f0 = 0
     · have e : plR ps i = placeE (ps.getD i zP).f1 (ps.getD i zP).f2 := by unfold plR; rw [if_neg (by simpa using h0)]
       rw [e] at hz ⊢
       simp only [h0, hz, ↓reduceIte]
       exact Ev.some _
     · have e : plR ps i = nmE ((ps.take i).map (·.f0)) (ps.getD i zP).f0 := by unfold plR; rw [if_pos h0]
       rw [e]
       simp only [h0, ↓reduceIte]
       exact Ev.some _))
   (by
     refine Ev.step (f := fun k => net_Check.l1 k ps ts (ps.map (·.f0)) 0) (fun k => ?_) (check_ts hp ht hT)
     simp only [net_Check.l0]
     rw [if_neg (by omega), List.take_length])
 simpa using h
theorem check_ev (nm : ByteArray) {ps : List Pla} {ts : List Tra} (hT : Thin ts) : Ev (fun k => net_Check.f k nm ps ts) (checkS nm ps ts) := by
 unfold net_Check.f checkS
 by_cases h1 : nameB nm = true
 · by_cases h2 : (ps.length : Int) < 1 ∨ (24 : Int) < (ps.length : Int) ∨ (24 : Int) < (ts.length : Int)
   · simp only [h1, h2, ↓reduceIte]; exact Ev.some _
   · simp only [h1, h2, ↓reduceIte]
     exact check_ps (by omega) (by omega) hT
 · simp only [h1]; exact Ev.some _
theorem valid_ev (nm : ByteArray) {ps : List Pla} {ts : List Tra} (hT : Thin ts) : Ev (fun k => net_valid.f k nm ps ts) (validS nm ps ts) := by
 unfold net_valid.f
 exact Ev.bind (check_ev nm hT) (Ev.some _)
end Go.Proofs.Ytnoebjmhimehcaa.Pl
/- The small nets. -/
namespace Go.Proofs.Ytnoebjmhimehcaa.Pl
open Go.RowKit Go.Proofs.Ytnoebjmhimehcaa.P Go.Proofs.YtnoebjmhimehcaaW.PrintWords Go.Proofs.YtnoebjmhimehcaaW.PrintMore

def smT (t : Tra) : Option Bool := if (t.f0.size : Int) > 20 ∨ (t.f1.length : Int) > 26 ∨ (t.f2.length : Int) > 26 ∨ (t.f3.length : Int) > 26 then some false else none
def smP (p : Pla) : Option Bool := if (p.f0.size : Int) > 20 then some false else none
def smallS (nm : ByteArray) (ps : List Pla) (ts : List Tra) : Bool :=
 if (ps.length : Int) > 26 ∨ (ts.length : Int) > 26 ∨ (nm.size : Int) > 20 then false else first (fun i => smP (ps.getD i zP)) (first (fun i => smT (ts.getD i zT)) true ts.length) ps.length
structure SmallN (nm : ByteArray) (ps : List Pla) (ts : List Tra) : Prop where
 p : ps.length ≤ 26
 t : ts.length ≤ 26
 n : nm.size ≤ 20
 pn : ∀ i, i < ps.length → (ps.getD i zP).f0.size ≤ 20
 tn : ∀ i, i < ts.length → (ts.getD i zT).f0.size ≤ 20 ∧ (ts.getD i zT).f1.length ≤ 26 ∧ (ts.getD i zT).f2.length ≤ 26 ∧ (ts.getD i zT).f3.length ≤ 26
theorem smallS_true {nm : ByteArray} {ps : List Pla} {ts : List Tra} (h : smallS nm ps ts = true) : SmallN nm ps ts := by
 unfold smallS at h
 by_cases c : (ps.length : Int) > 26 ∨ (ts.length : Int) > 26 ∨ (nm.size : Int) > 20
 · rw [if_pos c] at h; cases h
 · rw [if_neg c] at h
   rcases first_cases (fun i => smP (ps.getD i zP)) (first (fun i => smT (ts.getD i zT)) true ts.length) ps.length with ⟨h1, h2⟩ | ⟨j, h1, h2, _⟩
   · rw [h1] at h
     rcases first_cases (fun i => smT (ts.getD i zT)) true ts.length with ⟨k1, k2⟩ | ⟨j, k1, k2, _⟩
     · refine ⟨by omega, by omega, by omega, fun i hi => ?_, fun i hi => ?_⟩
       · have := h2 i hi
         unfold smP at this
         by_cases d : ((ps.getD i zP).f0.size : Int) > 20
         · rw [if_pos d] at this; cases this
         · omega
       · have := k2 i hi
         unfold smT at this
         by_cases d : ((ts.getD i zT).f0.size : Int) > 20 ∨ ((ts.getD i zT).f1.length : Int) > 26 ∨ ((ts.getD i zT).f2.length : Int) > 26 ∨ ((ts.getD i zT).f3.length : Int) > 26
         · rw [if_pos d] at this; cases this
         · omega
     · rw [h] at k2
       unfold smT at k2
       by_cases d : ((ts.getD j zT).f0.size : Int) > 20 ∨ ((ts.getD j zT).f1.length : Int) > 26 ∨ ((ts.getD j zT).f2.length : Int) > 26 ∨ ((ts.getD j zT).f3.length : Int) > 26
       · rw [if_pos d] at k2; cases k2
       · rw [if_neg d] at k2; cases k2
   · rw [h] at h2
     unfold smP at h2
     by_cases d : ((ps.getD j zP).f0.size : Int) > 20
     · rw [if_pos d] at h2; cases h2
     · rw [if_neg d] at h2; cases h2
theorem SmallN.thin {nm : ByteArray} {ps : List Pla} {ts : List Tra} (h : SmallN nm ps ts) : Thin ts := fun t ht => by
 obtain ⟨i, hi, rfl⟩ := List.getElem_of_mem ht
 have := h.tn i hi
 rw [List.getD_eq_getElem?_getD, List.getElem?_eq_getElem hi] at this
 obtain ⟨a, b, c, d⟩ := this
 exact ⟨Nat.le_trans a (by decide), Nat.le_trans b (by decide), Nat.le_trans c (by decide), Nat.le_trans d (by decide)⟩
def smallR (b : Bool) (nm : ByteArray) (ps : List Pla) (ts : List Tra) : ByteArray × List Pla × List Tra × Bool := if b = true then (nm, ps, ts, true) else (⟨#[]⟩, [], [], false)
theorem first_map {α β : Type} (f : α → β) (p : Nat → Option α) (e : α) (n : Nat) : first (fun i => (p i).map f) (f e) n = f (first p e n) := by
 rcases first_cases p e n with ⟨h1, h2⟩ | ⟨j, h1, h2, h3⟩
 · rw [h1]; exact first_all (fun j hj => by rw [h2 j hj]; rfl)
 · exact first_at j h1 (by rw [h2]; rfl) (fun m hm => by rw [h3 m hm]; rfl)
theorem small_ev (nm : ByteArray) (ps : List Pla) (ts : List Tra) : Ev (fun k => r09_Small.f k nm ps ts) (smallR (smallS nm ps ts) nm ps ts) := by
 have e0 : ∀ k, r09_Small.f k nm ps ts = r09_Small.j0 k (decide ((ps.length : Int) > 26 ∨ (ts.length : Int) > 26 ∨ (nm.size : Int) > 20)) nm ps ts := fun k => by
   unfold r09_Small.f
   rw [ite_or ((ts.length : Int) > 26) _ (fun b => r09_Small.j0 k b nm ps ts)]
   exact ite_or _ _ (fun b => r09_Small.j0 k b nm ps ts)
 refine Ev.congr e0 ?_
 unfold smallS
 by_cases c : (ps.length : Int) > 26 ∨ (ts.length : Int) > 26 ∨ (nm.size : Int) > 20
 · rw [decide_eq_true c, if_pos c]
   exact Ev.one (fun k => by simp only [r09_Small.j0, ↓reduceIte]; rfl)
 · rw [decide_eq_false c, if_neg c]
   refine Ev.step (f := fun k => r09_Small.l0 k ((0 : Nat) : Int) nm ps ts) (fun k => by simp only [r09_Small.j0]; rw [if_neg Bool.false_ne_true]; rfl) ?_
   have ht := Ev_loop (L := fun k i => r09_Small.l1 k (i : Int) nm ps ts) (n := ts.length) 1 (fun i => (smT (ts.getD i zT)).map (fun b => smallR b nm ps ts)) (e := smallR true nm ps ts)
     (fun k i hi => by
       simp only [r09_Small.l1]
       rw [if_pos (by omega), if_pos (by omega), rdT, wrap_up hi (by omega), ite_or2, ite_or2, ite_or2]
       unfold smT
       by_cases d : ((ts.getD i zT).f0.size : Int) > 20 ∨ ((ts.getD i zT).f1.length : Int) > 26 ∨ ((ts.getD i zT).f2.length : Int) > 26 ∨ ((ts.getD i zT).f3.length : Int) > 26
       · rw [if_pos d, if_pos (by omega)]; rfl
       · rw [if_neg d, if_neg (by omega)]; rfl)
     (Ev.one (fun k => by simp only [r09_Small.l1]; rw [if_neg (by omega)]; rfl))
   have hp := Ev_loop (L := fun k i => r09_Small.l0 k (i : Int) nm ps ts) (n := ps.length) 1 (fun i => (smP (ps.getD i zP)).map (fun b => smallR b nm ps ts)) (e := first (fun i => (smT (ts.getD i zT)).map (fun b => smallR b nm ps ts)) (smallR true nm ps ts) ts.length)
     (fun k i hi => by
       simp only [r09_Small.l0]
       rw [if_pos (by omega), if_pos (by omega), rdP, wrap_up hi (by omega)]
       unfold smP
       by_cases d : ((ps.getD i zP).f0.size : Int) > 20
       · rw [if_pos d, if_pos d]; rfl
       · rw [if_neg d, if_neg d]; rfl)
     (Ev.step (f := fun k => r09_Small.l1 k ((0 : Nat) : Int) nm ps ts) (fun k => by simp only [r09_Small.l0]; rw [if_neg (by omega)]; rfl) ht)
   rw [first_map (fun b => smallR b nm ps ts), first_map (fun b => smallR b nm ps ts)] at hp
   exact hp
end Go.Proofs.Ytnoebjmhimehcaa.Pl
/- What the functions over nets answer, told plainly. -/
namespace Go.Proofs.Ytnoebjmhimehcaa.Pl
open Go.RowKit Go.Proofs.Ytnoebjmhimehcaa.P Go.Proofs.YtnoebjmhimehcaaW.PrintWords Go.Proofs.YtnoebjmhimehcaaW.PrintMore

theorem bytes_eq {a b : ByteArray} (h : a.toList = b.toList) : a = b := by
 rw [ByteArray.toList_eq, ByteArray.toList_eq] at h
 exact Go.WideShapes.bytes_inj h
def weightS (l : List Ac) (p : Int) : Int := first (fun i => if (l.getD i zA).f0 = p then some (l.getD i zA).f1 else none) 0 l.length
def placeS (v : Bool) (ps : List Pla) (s : ByteArray) : Int := if v = true then first (fun i => if (ps.getD i zP).f0.toList = s.toList then some (i : Int) else none) (-1) ps.length else -1
def transS (v : Bool) (ts : List Tra) (s : ByteArray) : Int := if v = true then first (fun i => if (ts.getD i zT).f0.toList = s.toList then some (i : Int) else none) (-1) ts.length else -1
def plainP (ps : List Pla) (e : Bool) : Bool := first (fun i => if (ps.getD i zP).f2 ≠ 0 then some false else none) e ps.length
def plainT (ts : List Tra) (e : Bool) : Bool := first (fun i => if ((ts.getD i zT).f3.length : Int) > 0 ∨ (ts.getD i zT).f4 ≠ 0 then some false else none) e ts.length
def plainS (v : Bool) (ps : List Pla) (ts : List Tra) : Bool := plainT ts (plainP ps v)
theorem plainP_eq (ps : List Pla) (e : Bool) : plainP ps e = if ∃ i, i < ps.length ∧ (ps.getD i zP).f2 ≠ 0 then false else e := first_any _ _ _ _
theorem plainT_eq (ts : List Tra) (e : Bool) : plainT ts e = if ∃ i, i < ts.length ∧ (((ts.getD i zT).f3.length : Int) > 0 ∨ (ts.getD i zT).f4 ≠ 0) then false else e := first_any _ _ _ _
def producersS (v : Bool) (ts : List Tra) (p : Int) : List Int := if v = true then ((List.range ts.length).filter fun t : Nat => decide (weightS (ts.getD t zT).f2 p > 0)).map (fun t : Nat => (t : Int)) else []
def consumersS (v : Bool) (ts : List Tra) (p : Int) : List Int := if v = true then ((List.range ts.length).filter fun t : Nat => decide (weightS (ts.getD t zT).f1 p > 0)).map (fun t : Nat => (t : Int)) else []

/-! ### equal nets -/
theorem ac_ext {a b : Ac} (h0 : a.f0 = b.f0) (h1 : a.f1 = b.f1) : a = b := by cases a; cases b; simp_all
theorem pla_ext {a b : Pla} (h0 : a.f0 = b.f0) (h1 : a.f1 = b.f1) (h2 : a.f2 = b.f2) : a = b := by cases a; cases b; simp_all
theorem tra_ext {a b : Tra} (h0 : a.f0 = b.f0) (h1 : a.f1 = b.f1) (h2 : a.f2 = b.f2) (h3 : a.f3 = b.f3) (h4 : a.f4 = b.f4) : a = b := by cases a; cases b; simp_all
theorem ext_getD {α : Type} (z : α) {a b : List α} (hl : a.length = b.length) (h : ∀ i, i < a.length → a.getD i z = b.getD i z) : a = b := by
 refine List.ext_getElem hl (fun i h1 h2 => ?_)
 have := h i h1
 rw [List.getD_eq_getElem?_getD, List.getD_eq_getElem?_getD, List.getElem?_eq_getElem h1, List.getElem?_eq_getElem h2] at this
 exact this
def neA (x y : Ac) : Bool := (!(x.f0 == y.f0) || (!(x.f1 == y.f1)))
theorem neA_false {x y : Ac} : neA x y = false ↔ x = y := by
 unfold neA
 constructor
 · intro h
   simp only [Bool.or_eq_false_iff, Bool.not_eq_false', beq_iff_eq] at h
   exact ac_ext h.1 h.2
 · rintro rfl
   simp
def sameArcsS (a b : List Ac) : Bool := if (a.length : Int) = (b.length : Int) then first (fun i => if neA (a.getD i zA) (b.getD i zA) = true then some false else none) true a.length else false
theorem first_bool {n : Nat} (c : Nat → Bool) : first (fun i => if c i = true then some false else none) true n = true ↔ ∀ i, i < n → c i = false := by
 rw [first_any (fun i => c i = true)]
 constructor
 · intro h i hi
   refine Bool.eq_false_iff.2 fun hc => ?_
   rw [if_pos ⟨i, hi, hc⟩] at h
   cases h
 · intro h
   rw [if_neg]
   rintro ⟨i, hi, hc⟩
   rw [h i hi] at hc
   cases hc
theorem sameArcsS_iff {a b : List Ac} : sameArcsS a b = true ↔ a = b := by
 unfold sameArcsS
 constructor
 · intro h
   by_cases hl : (a.length : Int) = (b.length : Int)
   · rw [if_pos hl] at h
     exact ext_getD zA (by omega) (fun i hi => neA_false.1 (first_bool (fun i => neA (a.getD i zA) (b.getD i zA)) |>.1 h i hi))
   · rw [if_neg hl] at h; cases h
 · rintro rfl
   rw [if_pos rfl]
   exact first_bool (fun i => neA (a.getD i zA) (a.getD i zA)) |>.2 fun i _ => neA_false.2 rfl
def neP (x y : Pla) : Bool := (!(x.f0.toList == y.f0.toList) || (!(x.f1 == y.f1) || (!(x.f2 == y.f2))))
theorem neP_false {x y : Pla} : neP x y = false ↔ x = y := by
 unfold neP
 constructor
 · intro h
   simp only [Bool.or_eq_false_iff, Bool.not_eq_false', beq_iff_eq] at h
   exact pla_ext (bytes_eq h.1) h.2.1 h.2.2
 · rintro rfl
   simp
def eqT (x y : Tra) : Bool := if (x.f0.toList == y.f0.toList) = true then (if (x.f4 == y.f4) = true then (if sameArcsS x.f1 y.f1 = true then (if sameArcsS x.f2 y.f2 = true then sameArcsS x.f3 y.f3 else false) else false) else false) else false
theorem eqT_true {x y : Tra} : eqT x y = true ↔ x = y := by
 unfold eqT
 constructor
 · intro h
   by_cases c0 : (x.f0.toList == y.f0.toList) = true
   · rw [if_pos c0] at h
     by_cases c4 : (x.f4 == y.f4) = true
     · rw [if_pos c4] at h
       by_cases c1 : sameArcsS x.f1 y.f1 = true
       · rw [if_pos c1] at h
         by_cases c2 : sameArcsS x.f2 y.f2 = true
         · rw [if_pos c2] at h
           exact tra_ext (bytes_eq (beq_iff_eq.1 c0)) (sameArcsS_iff.1 c1) (sameArcsS_iff.1 c2) (sameArcsS_iff.1 h) (beq_iff_eq.1 c4)
         · rw [if_neg c2] at h; cases h
       · rw [if_neg c1] at h; cases h
     · rw [if_neg c4] at h; cases h
   · rw [if_neg c0] at h; cases h
 · rintro rfl
   rw [if_pos (beq_iff_eq.2 rfl), if_pos (beq_iff_eq.2 rfl), if_pos (sameArcsS_iff.2 rfl), if_pos (sameArcsS_iff.2 rfl)]
   exact sameArcsS_iff.2 rfl
def equalS (nm : ByteArray) (ps : List Pla) (ts : List Tra) (nm' : ByteArray) (ps' : List Pla) (ts' : List Tra) : Bool :=
 if (nm.toList == nm'.toList) = true then (if (ps.length : Int) = (ps'.length : Int) then (if (ts.length : Int) = (ts'.length : Int) then first (fun i => if neP (ps.getD i zP) (ps'.getD i zP) = true then some false else none) (first (fun i => if (!eqT (ts.getD i zT) (ts'.getD i zT)) = true then some false else none) true ts.length) ps.length else false) else false) else false
theorem equalS_iff {nm : ByteArray} {ps : List Pla} {ts : List Tra} {nm' : ByteArray} {ps' : List Pla} {ts' : List Tra} : equalS nm ps ts nm' ps' ts' = true ↔ nm = nm' ∧ ps = ps' ∧ ts = ts' := by
 unfold equalS
 constructor
 · intro h
   by_cases c0 : (nm.toList == nm'.toList) = true
   · rw [if_pos c0] at h
     by_cases c1 : (ps.length : Int) = (ps'.length : Int)
     · rw [if_pos c1] at h
       by_cases c2 : (ts.length : Int) = (ts'.length : Int)
       · rw [if_pos c2] at h
         rcases first_cases (fun i => if neP (ps.getD i zP) (ps'.getD i zP) = true then some false else none) (first (fun i => if (!eqT (ts.getD i zT) (ts'.getD i zT)) = true then some false else none) true ts.length) ps.length with ⟨h1, h2⟩ | ⟨j, h1, h2, _⟩
         · rw [h1] at h
           refine ⟨bytes_eq (beq_iff_eq.1 c0), ext_getD zP (by omega) (fun i hi => neP_false.1 ?_), ext_getD zT (by omega) (fun i hi => eqT_true.1 ?_)⟩
           · have := h2 i hi
             refine Bool.eq_false_iff.2 fun hc => ?_
             simp only [hc, if_true] at this
             cases this
           · have := first_bool (fun i => !eqT (ts.getD i zT) (ts'.getD i zT)) |>.1 h i hi
             simpa using this
         · rw [h] at h2
           by_cases d : neP (ps.getD j zP) (ps'.getD j zP) = true
           · simp only [d, if_true] at h2; cases h2
           · simp only [d] at h2; cases h2
       · rw [if_neg c2] at h; cases h
     · rw [if_neg c1] at h; cases h
   · rw [if_neg c0] at h; cases h
 · rintro ⟨rfl, rfl, rfl⟩
   rw [if_pos (beq_iff_eq.2 rfl), if_pos rfl, if_pos rfl, first_all]
   · exact first_bool (fun i => !eqT (ts.getD i zT) (ts.getD i zT)) |>.2 fun i _ => by rw [eqT_true.2 rfl]; rfl
   · intro j hj
     rw [if_neg (by rw [neP_false.2 rfl]; exact Bool.false_ne_true)]
end Go.Proofs.Ytnoebjmhimehcaa.Pl
/- What the arcs of a list say: the weight. -/
namespace Go.Proofs.Ytnoebjmhimehcaa.Pl
set_option linter.unusedVariables false
open Go.RowKit Go.Proofs.Ytnoebjmhimehcaa.P Go.Proofs.YtnoebjmhimehcaaW.PrintWords Go.Proofs.YtnoebjmhimehcaaW.PrintMore

theorem weight_ev (l : List Ac) (p : Int) (hl : l.length ≤ 1000000) : Ev (fun k => net_weight.f k l p) (weightS l p) :=
 Ev_loop (L := fun k i => net_weight.l0 k p l (l.length : Int) (i : Int)) 1 _ (fun k i hi => by
   simp only [net_weight.l0]
   rw [if_pos (by omega), if_pos (by omega), if_pos (by omega), rdA, wrap_up hi (by omega)]
   by_cases c : (l.getD i zA).f0 = p
   · rw [if_pos c, if_pos c]; rfl
   · rw [if_neg c, if_neg c]; rfl) (Ev.one (fun k => by simp only [net_weight.l0]; rw [if_neg (by omega)]))
end Go.Proofs.Ytnoebjmhimehcaa.Pl
/- The places of a list that a test takes, one by one. -/
namespace Go.Proofs.Ytnoebjmhimehcaa.Pl
open Go.RowKit
theorem filter_len (q : Nat → Bool) (i : Nat) : (((List.range i).filter q).map (fun t : Nat => (t : Int))).length ≤ i := by
 rw [List.length_map]
 exact Nat.le_trans (List.length_filter_le _ _) (by rw [List.length_range]; exact Nat.le_refl _)
theorem filter_next (q : Nat → Bool) (i : Nat) : ((List.range (i + 1)).filter q).map (fun t : Nat => (t : Int)) = if q i = true then ((List.range i).filter q).map (fun t : Nat => (t : Int)) ++ [(i : Int)] else ((List.range i).filter q).map (fun t : Nat => (t : Int)) := by
 rw [filter_range_succ]
 by_cases h : q i = true
 · rw [if_pos h, if_pos h, List.map_append]; rfl
 · rw [if_neg h, if_neg h]
end Go.Proofs.Ytnoebjmhimehcaa.Pl
/- Producers and consumers: the program's text. -/
namespace Go.Proofs.Ytnoebjmhimehcaa.Pl
set_option linter.unusedVariables false
open Go.RowKit Go.Proofs.Ytnoebjmhimehcaa.P Go.Proofs.YtnoebjmhimehcaaW.PrintWords Go.Proofs.YtnoebjmhimehcaaW.PrintMore

theorem producers_ev (nm : ByteArray) {ps : List Pla} {ts : List Tra} (p : Int) (ht : ts.length ≤ 1000000) (hT : Thin ts) : Ev (fun k => net_Producers.f k nm ps ts p) (producersS (validS nm ps ts) ts p) := by
 unfold net_Producers.f producersS
 refine Ev.bind (valid_ev nm hT) ?_
 by_cases hv : validS nm ps ts = true
 · simp only [hv, ↓reduceIte]
   exact Ev_up (L := fun k i => net_Producers.l0 k ts p (((List.range i).filter fun t : Nat => decide (weightS (ts.getD t zT).f2 p > 0)).map (fun t : Nat => (t : Int))) (i : Int)) (n := ts.length)
     (fun i hi hr => Ev.step (f := fun k => (net_weight.f k (ts.getD i zT).f2 p).bind fun t => if t > 0 then net_Producers.l0 k ts p ((((List.range i).filter fun t : Nat => decide (weightS (ts.getD t zT).f2 p > 0)).map (fun t : Nat => (t : Int))) ++ [(i : Int)]) ((i + 1 : Nat) : Int) else net_Producers.l0 k ts p (((List.range i).filter fun t : Nat => decide (weightS (ts.getD t zT).f2 p > 0)).map (fun t : Nat => (t : Int))) ((i + 1 : Nat) : Int)) (fun k => by
       simp only [net_Producers.l0]
       have := filter_len (fun t : Nat => decide (weightS (ts.getD t zT).f2 p > 0)) i
       rw [if_pos (by omega), if_pos (by omega), if_pos (by omega), rdT, wrap_up hi (by omega)]) (by
         refine Ev.bind (weight_ev _ p (hT.at hi).2.2.1) ?_
         rw [filter_next] at hr
         by_cases c : weightS (ts.getD i zT).f2 p > 0
         · simp only [c, decide_true, ↓reduceIte] at hr ⊢; exact hr
         · simp only [c, decide_false, ↓reduceIte, Bool.false_eq_true] at hr ⊢; exact hr))
     (Ev.one (fun k => by simp only [net_Producers.l0]; rw [if_neg (by omega)]))
 · simp only [hv]; exact Ev.some _
theorem consumers_ev (nm : ByteArray) {ps : List Pla} {ts : List Tra} (p : Int) (ht : ts.length ≤ 1000000) (hT : Thin ts) : Ev (fun k => net_Consumers.f k nm ps ts p) (consumersS (validS nm ps ts) ts p) := by
 unfold net_Consumers.f consumersS
 refine Ev.bind (valid_ev nm hT) ?_
 by_cases hv : validS nm ps ts = true
 · simp only [hv, ↓reduceIte]
   exact Ev_up (L := fun k i => net_Consumers.l0 k ts p (((List.range i).filter fun t : Nat => decide (weightS (ts.getD t zT).f1 p > 0)).map (fun t : Nat => (t : Int))) (i : Int)) (n := ts.length)
     (fun i hi hr => Ev.step (f := fun k => (net_weight.f k (ts.getD i zT).f1 p).bind fun t => if t > 0 then net_Consumers.l0 k ts p ((((List.range i).filter fun t : Nat => decide (weightS (ts.getD t zT).f1 p > 0)).map (fun t : Nat => (t : Int))) ++ [(i : Int)]) ((i + 1 : Nat) : Int) else net_Consumers.l0 k ts p (((List.range i).filter fun t : Nat => decide (weightS (ts.getD t zT).f1 p > 0)).map (fun t : Nat => (t : Int))) ((i + 1 : Nat) : Int)) (fun k => by
       simp only [net_Consumers.l0]
       have := filter_len (fun t : Nat => decide (weightS (ts.getD t zT).f1 p > 0)) i
       rw [if_pos (by omega), if_pos (by omega), if_pos (by omega), rdT, wrap_up hi (by omega)]) (by
         refine Ev.bind (weight_ev _ p (hT.at hi).2.1) ?_
         rw [filter_next] at hr
         by_cases c : weightS (ts.getD i zT).f1 p > 0
         · simp only [c, decide_true, ↓reduceIte] at hr ⊢; exact hr
         · simp only [c, decide_false, ↓reduceIte, Bool.false_eq_true] at hr ⊢; exact hr))
     (Ev.one (fun k => by simp only [net_Consumers.l0]; rw [if_neg (by omega)]))
 · simp only [hv]; exact Ev.some _

end Go.Proofs.Ytnoebjmhimehcaa.Pl
/- The reference's names. -/
namespace Go.Proofs.Ytnoebjmhimehcaa.Pl
open Go.RowKit Go.Proofs.Ytnoebjmhimehcaa.P Go.Proofs.YtnoebjmhimehcaaW.PrintWords Go.Proofs.YtnoebjmhimehcaaW.PrintMore

/-! ### Name -/

end Go.Proofs.Ytnoebjmhimehcaa.Pl
/- The reference's check answers the same. -/
namespace Go.Proofs.Ytnoebjmhimehcaa.Pl
open Go.RowKit Go.Proofs.Ytnoebjmhimehcaa.P Go.Proofs.YtnoebjmhimehcaaW.PrintWords Go.Proofs.YtnoebjmhimehcaaW.PrintMore

/-! ### a place -/

/-! ### arcs -/

/-! ### a transition -/

/-! ### the check -/
end Go.Proofs.Ytnoebjmhimehcaa.Pl
/- What the reference's functions over lists of arcs answer. -/
namespace Go.Proofs.Ytnoebjmhimehcaa.Pl
open Go.RowKit Go.Proofs.Ytnoebjmhimehcaa.P Go.Proofs.YtnoebjmhimehcaaW.PrintWords Go.Proofs.YtnoebjmhimehcaaW.PrintMore
end Go.Proofs.Ytnoebjmhimehcaa.Pl
/- The reference's targets of a list of arcs. -/
namespace Go.Proofs.Ytnoebjmhimehcaa.Pl
open Go.RowKit Go.Proofs.Ytnoebjmhimehcaa.P Go.Proofs.YtnoebjmhimehcaaW.PrintWords Go.Proofs.YtnoebjmhimehcaaW.PrintMore

end Go.Proofs.Ytnoebjmhimehcaa.Pl
/- Producers and consumers, the reference's. -/
namespace Go.Proofs.Ytnoebjmhimehcaa.Pl
open Go.RowKit Go.Proofs.Ytnoebjmhimehcaa.P Go.Proofs.YtnoebjmhimehcaaW.PrintWords Go.Proofs.YtnoebjmhimehcaaW.PrintMore

end Go.Proofs.Ytnoebjmhimehcaa.Pl
/- Plain lemmas: loops that end early, lists told by their places. -/
namespace Go.Proofs.Ytnoebjmhimehcaa.Pl
open Go.RowKit Go.Proofs.YtnoebjmhimehcaaW.PrintWords Go.Proofs.YtnoebjmhimehcaaW.PrintMore

theorem dec_t {p : Prop} {i : Decidable p} (h : p) : @decide p i = true := decide_eq_true h
theorem dec_f {p : Prop} {i : Decidable p} (h : ¬ p) : @decide p i = false := decide_eq_false h
/-- A loop that counts up to n and answers a at the first place with c. -/
theorem Ev_ex {ρ : Type} {L : Nat → Nat → Option ρ} {n : Nat} (c : Nat → Prop) {a e r : ρ}
   (yes : ∀ i, i < n → c i → Ev (fun k => L k i) a)
   (no : ∀ i, i < n → ¬ c i → ∀ r, Ev (fun k => L k (i + 1)) r → Ev (fun k => L k i) r)
   (fin : (∀ j, j < n → ¬ c j) → Ev (fun k => L k n) e) (ha : (∃ j, j < n ∧ c j) → r = a) (he : (∀ j, j < n → ¬ c j) → r = e) : Ev (fun k => L k 0) r := by
 have go : ∀ d i, i + d = n → (∀ j, j < i → ¬ c j) → Ev (fun k => L k i) r := by
   intro d
   induction d with
   | zero =>
     intro i hi hb
     obtain rfl : i = n := by omega
     rw [he hb]
     exact fin hb
   | succ d ih =>
     intro i hi hb
     by_cases h : c i
     · rw [ha ⟨i, by omega, h⟩]
       exact yes i (by omega) h
     · exact no i (by omega) h _ (ih (i + 1) (by omega) (fun j hj => by
         by_cases e : j = i
         · rw [e]; exact h
         · exact hb j (by omega)))
 exact go n 0 (by omega) (fun j h => by omega)

/-- A list by its places. -/
abbrev mr {α : Type} (n : Nat) (f : Nat → α) : List α := (List.range n).map f
theorem mr_get {α : Type} {n v : Nat} (f : Nat → α) (d : α) (h : v < n) : (mr n f).getD v d = f v := by
 rw [List.getD_eq_getElem?_getD, List.getElem?_map, List.getElem?_range h]; rfl
theorem mr_len {α : Type} (n : Nat) (f : Nat → α) : (mr n f).length = n := by rw [List.length_map, List.length_range]
theorem mr_congr {α : Type} {n : Nat} {f g : Nat → α} (h : ∀ v, v < n → f v = g v) : mr n f = mr n g := List.map_congr_left fun v hv => h v (List.mem_range.1 hv)
theorem mr_set {α : Type} {n p : Nat} (f : Nat → α) (x : α) : (mr n f).set p x = mr n (fun v => if v = p then x else f v) := by
 refine List.ext_getElem? fun i => ?_
 rw [List.getElem?_set, List.getElem?_map, List.getElem?_map, List.length_map, List.length_range]
 by_cases hi : i < n
 · rw [List.getElem?_range hi]
   by_cases e : p = i
   · subst e; simp [hi]
   · simp [e, Ne.symm e]
 · rw [List.getElem?_eq_none (by simpa using hi)]
   by_cases e : p = i
   · subst e; simp [hi]
   · simp [e]
theorem mr_rep {α : Type} (n : Nat) (x : α) : List.replicate n x = mr n (fun _ => x) := by
 refine List.ext_getElem (by simp) fun i h1 h2 => by simp
theorem mr_snoc {α : Type} (n : Nat) (f : Nat → α) : mr (n + 1) f = mr n f ++ [f n] := by unfold mr; rw [List.range_succ, List.map_append]; rfl
end Go.Proofs.Ytnoebjmhimehcaa.Pl
/- The source and the sink of a net, by both texts. -/
namespace Go.Proofs.Ytnoebjmhimehcaa.Pl
set_option linter.unusedVariables false
open Go.RowKit Go.Proofs.Ytnoebjmhimehcaa.P Go.Proofs.YtnoebjmhimehcaaW.PrintWords Go.Proofs.YtnoebjmhimehcaaW.PrintMore

/-- The places for which a list is empty. -/
def endsN (f : Nat → List Int) (i : Nat) : List Nat := (List.range i).filter (fun p => decide ((f p).length = 0))
def onlyS (v : Bool) (K : Nat) (f : Nat → List Int) : Int × Bool :=
 if v = true then (match endsN f K with | [p] => ((p : Int), true) | _ => (-1, false)) else (-1, false)
theorem endsN_succ (f : Nat → List Int) (i : Nat) : endsN f (i + 1) = if (f i).length = 0 then endsN f i ++ [i] else endsN f i := by
 unfold endsN
 rw [filter_range_succ]
 by_cases h : (f i).length = 0
 · rw [if_pos (decide_eq_true h), if_pos h]
 · rw [if_neg (by simpa using h), if_neg h]
theorem endsN_pre (f : Nat → List Int) (i : Nat) : ∀ d, ∃ r, endsN f (i + d) = endsN f i ++ r
 | 0 => ⟨[], by simp⟩
 | d + 1 => by
   obtain ⟨r, h⟩ := endsN_pre f i d
   rw [← Nat.add_assoc, endsN_succ]
   by_cases c : (f (i + d)).length = 0
   · exact ⟨r ++ [i + d], by rw [if_pos c, h, List.append_assoc]⟩
   · exact ⟨r, by rw [if_neg c, h]⟩
theorem endsN_two {f : Nat → List Int} {i K p q : Nat} {v : Bool} (hi : i ≤ K) (h : endsN f i = [p, q]) : onlyS v K f = (-1, false) := by
 obtain ⟨r, e⟩ := endsN_pre f i (K - i)
 rw [show i + (K - i) = K by omega, h] at e
 unfold onlyS
 rw [e]
 cases v <;> rfl
theorem only_prog {L : Nat → Int → Int → Option (Int × Bool)} {K : Nat} {f : Nat → List Int}
   (go : ∀ (i : Nat) (x : Int) r, i < K → (f i).length ≠ 0 → Ev (fun k => L k x ((i + 1 : Nat) : Int)) r → Ev (fun k => L k x (i : Int)) r)
   (two : ∀ (i : Nat) (x : Int), i < K → (f i).length = 0 → x ≥ 0 → Ev (fun k => L k x (i : Int)) (-1, false))
   (put : ∀ (i : Nat) (x : Int) r, i < K → (f i).length = 0 → ¬ x ≥ 0 → Ev (fun k => L k (i : Int) ((i + 1 : Nat) : Int)) r → Ev (fun k => L k x (i : Int)) r)
   (fin : ∀ x, Ev (fun k => L k x (K : Int)) (x, decide (x ≥ 0))) : ∀ d i, K - i = d → i ≤ K →
   (endsN f i = [] → Ev (fun k => L k (-1) (i : Int)) (onlyS true K f)) ∧ ∀ p, endsN f i = [p] → Ev (fun k => L k (p : Int) (i : Int)) (onlyS true K f) := by
 intro d
 induction d with
 | zero =>
   intro i hd hi
   obtain rfl : i = K := by omega
   refine ⟨fun h => ?_, fun p h => ?_⟩
   · have e : onlyS true i f = (-1, decide ((-1 : Int) ≥ 0)) := by unfold onlyS; rw [h]; rfl
     rw [e]; exact fin _
   · have e : onlyS true i f = ((p : Int), decide ((p : Int) ≥ 0)) := by unfold onlyS; rw [h]; rw [decide_eq_true (by omega : (p : Int) ≥ 0)]; rfl
     rw [e]; exact fin _
 | succ d ih =>
   intro i hd hi
   have hi' : i < K := by omega
   obtain ⟨ih1, ih2⟩ := ih (i + 1) (by omega) (by omega)
   by_cases c : (f i).length = 0
   · have es : endsN f (i + 1) = endsN f i ++ [i] := by rw [endsN_succ, if_pos c]
     refine ⟨fun h => put i _ _ hi' c (by omega) (ih2 i (by rw [es, h]; rfl)), fun p h => ?_⟩
     rw [endsN_two (i := i + 1) (p := p) (q := i) (by omega) (by rw [es, h]; rfl)]
     exact two i _ hi' c (by omega)
   · have es : endsN f (i + 1) = endsN f i := by rw [endsN_succ, if_neg c]
     exact ⟨fun h => go i _ _ hi' c (ih1 (by rw [es, h])), fun p h => go i _ _ hi' c (ih2 p (by rw [es, h]))⟩
section
variable {nm : ByteArray} {ps : List Pla} {ts : List Tra}
def prodF (ts : List Tra) (p : Nat) : List Int := producersS true ts (p : Int)
def consF (ts : List Tra) (p : Nat) : List Int := consumersS true ts (p : Int)
theorem onlyProducers_ev (ht : ts.length ≤ 1000000) (hp : ps.length ≤ 1000000) (hT : Thin ts) : Ev (fun k => workflow_Source.f k nm ps ts) (onlyS (validS nm ps ts) ps.length (prodF ts)) := by
 unfold workflow_Source.f workflow_only_Producers.f
 refine Ev.bind ?_ (Ev.some _)
 refine Ev.bind (check_ev nm hT) ?_
 have ev : validS nm ps ts = ((checkS nm ps ts).1 == 0) := rfl
 cases hv : validS nm ps ts with
 | false =>
   rw [hv] at ev
   refine Ev.congr (fun k => if_neg (fun e => by rw [e] at ev; cases ev)) ?_
   exact Ev.some _
 | true =>
   rw [hv] at ev
   refine Ev.congr (fun k => if_pos (beq_iff_eq.1 ev.symm)) ?_
   have st : ∀ (i : Nat) (x : Int) r, i < ps.length → Ev (fun k => if (((prodF ts) i).length : Int) > 0 then workflow_only_Producers.l0 k x (ps.length : Int) ((i + 1 : Nat) : Int) nm ps ts else if x ≥ 0 then some (-1, false) else workflow_only_Producers.l0 k (i : Int) (ps.length : Int) ((i + 1 : Nat) : Int) nm ps ts) r → Ev (fun k => workflow_only_Producers.l0 k x (ps.length : Int) (i : Int) nm ps ts) r := fun i x r hi h => by
     refine Ev.step (fun k => by simp only [workflow_only_Producers.l0]; rw [if_pos (by omega), wrap_up hi (by omega)]) ?_
     refine Ev.bind (producers_ev nm (i : Int) ht hT) ?_
     rw [hv]
     exact h
   refine ((only_prog (L := fun k x i => workflow_only_Producers.l0 k x (ps.length : Int) i nm ps ts) (K := ps.length) (f := (prodF ts)) (fun i x r hi c h => st i x r hi (Ev.congr (fun k => if_pos (by omega)) h)) (fun i x hi c hx => st i x _ hi (Ev.congr (fun k => by rw [if_neg (by omega), if_pos hx]) (Ev.some _))) (fun i x r hi c hx h => st i x r hi (Ev.congr (fun k => by rw [if_neg (by omega), if_neg hx]) h)) (fun x => Ev.one fun k => by simp only [workflow_only_Producers.l0]; rw [if_neg (by omega)]) ps.length 0 rfl (Nat.zero_le _)).1 rfl)
theorem onlyConsumers_ev (ht : ts.length ≤ 1000000) (hp : ps.length ≤ 1000000) (hT : Thin ts) : Ev (fun k => workflow_Sink.f k nm ps ts) (onlyS (validS nm ps ts) ps.length (consF ts)) := by
 unfold workflow_Sink.f workflow_only_Consumers.f
 refine Ev.bind ?_ (Ev.some _)
 refine Ev.bind (check_ev nm hT) ?_
 have ev : validS nm ps ts = ((checkS nm ps ts).1 == 0) := rfl
 cases hv : validS nm ps ts with
 | false =>
   rw [hv] at ev
   refine Ev.congr (fun k => if_neg (fun e => by rw [e] at ev; cases ev)) ?_
   exact Ev.some _
 | true =>
   rw [hv] at ev
   refine Ev.congr (fun k => if_pos (beq_iff_eq.1 ev.symm)) ?_
   have st : ∀ (i : Nat) (x : Int) r, i < ps.length → Ev (fun k => if (((consF ts) i).length : Int) > 0 then workflow_only_Consumers.l0 k x (ps.length : Int) ((i + 1 : Nat) : Int) nm ps ts else if x ≥ 0 then some (-1, false) else workflow_only_Consumers.l0 k (i : Int) (ps.length : Int) ((i + 1 : Nat) : Int) nm ps ts) r → Ev (fun k => workflow_only_Consumers.l0 k x (ps.length : Int) (i : Int) nm ps ts) r := fun i x r hi h => by
     refine Ev.step (fun k => by simp only [workflow_only_Consumers.l0]; rw [if_pos (by omega), wrap_up hi (by omega)]) ?_
     refine Ev.bind (consumers_ev nm (i : Int) ht hT) ?_
     rw [hv]
     exact h
   refine ((only_prog (L := fun k x i => workflow_only_Consumers.l0 k x (ps.length : Int) i nm ps ts) (K := ps.length) (f := (consF ts)) (fun i x r hi c h => st i x r hi (Ev.congr (fun k => if_pos (by omega)) h)) (fun i x hi c hx => st i x _ hi (Ev.congr (fun k => by rw [if_neg (by omega), if_pos hx]) (Ev.some _))) (fun i x r hi c hx h => st i x r hi (Ev.congr (fun k => by rw [if_neg (by omega), if_neg hx]) h)) (fun x => Ev.one fun k => by simp only [workflow_only_Consumers.l0]; rw [if_neg (by omega)]) ps.length 0 rfl (Nat.zero_le _)).1 rfl)
end
end Go.Proofs.Ytnoebjmhimehcaa.Pl
/- Whether a net is valid, as netclass asks it. -/
namespace Go.Proofs.Ytnoebjmhimehcaa.Pl
open Go.RowKit Go.Proofs.Ytnoebjmhimehcaa.P Go.Proofs.YtnoebjmhimehcaaW.PrintWords Go.Proofs.YtnoebjmhimehcaaW.PrintMore
theorem nvalid_ev (nm : ByteArray) {ps : List Pla} {ts : List Tra} (hT : Thin ts) : Ev (fun k => netclass_valid.f k nm ps ts) (validS nm ps ts) := by
 unfold netclass_valid.f
 exact Ev.bind (check_ev nm hT) (Ev.some _)
end Go.Proofs.Ytnoebjmhimehcaa.Pl
/- Reading a list of lists; appending to a list. -/
namespace Go.Proofs.Ytnoebjmhimehcaa.Pl
open Go.RowKit Go.Proofs.Ytnoebjmhimehcaa.P Go.Proofs.YtnoebjmhimehcaaW.PrintWords Go.Proofs.YtnoebjmhimehcaaW.PrintMore
theorem rdL (xs : List (List Int)) (i : Nat) : rd_L11 xs (i : Int) = xs.getD i [] := by simp [rd_L11]
theorem getD_app {α : Type} (xs : List α) (x d : α) (j : Nat) : (xs ++ [x]).getD j d = if j = xs.length then x else xs.getD j d := by
 have := rdOf_app d xs x (j : Int) (by omega)
 rw [rdOf_nat, rdOf_nat] at this
 rw [this]
 by_cases e : j = xs.length
 · rw [if_pos e, if_pos (by omega)]
 · rw [if_neg e, if_neg (by omega)]
end Go.Proofs.Ytnoebjmhimehcaa.Pl
/- What a valid net is. -/
namespace Go.Proofs.Ytnoebjmhimehcaa.Pl
open Go.RowKit Go.Proofs.Ytnoebjmhimehcaa.P Go.Proofs.YtnoebjmhimehcaaW.PrintWords Go.Proofs.YtnoebjmhimehcaaW.PrintMore

structure ValidN (nm : ByteArray) (ps : List Pla) (ts : List Tra) : Prop where
 n : nameB nm = true
 p0 : 1 ≤ ps.length
 p : ps.length ≤ 24
 t : ts.length ≤ 24
 pl : ∀ i, i < ps.length → plR ps i = 0
 tr : ∀ i, i < ts.length → trR ps ts i = 0
theorem validS_iff {nm : ByteArray} {ps : List Pla} {ts : List Tra} : validS nm ps ts = true ↔ ValidN nm ps ts := by
 unfold validS checkS
 constructor
 · intro h
   by_cases h1 : nameB nm = true
   · rw [if_pos h1] at h
     by_cases h2 : (ps.length : Int) < 1 ∨ (24 : Int) < (ps.length : Int) ∨ (24 : Int) < (ts.length : Int)
     · rw [if_pos h2] at h; simp at h
     · rw [if_neg h2] at h
       rcases first_cases (pF ps) (first (tF ps ts) (0, 0) ts.length) ps.length with ⟨a1, a2⟩ | ⟨j, a1, a2, _⟩
       · rw [a1] at h
         rcases first_cases (tF ps ts) ((0 : Int), (0 : Int)) ts.length with ⟨b1, b2⟩ | ⟨j, b1, b2, _⟩
         · exact ⟨h1, by omega, by omega, by omega, fun i hi => of_ite_none (a2 i hi), fun i hi => of_ite_none (b2 i hi)⟩
         · obtain ⟨c1, c2⟩ := of_ite_some b2
           rw [← c2] at h
           exact absurd (beq_iff_eq.1 h) c1
       · obtain ⟨c1, c2⟩ := of_ite_some a2
         rw [← c2] at h
         exact absurd (beq_iff_eq.1 h) c1
   · rw [if_neg h1] at h; simp at h
 · rintro ⟨h1, h2, h3, h4, h5, h6⟩
   rw [if_pos h1, if_neg (by omega), first_all (fun j hj => by unfold pF; rw [if_pos (h5 j hj)]), first_all (fun j hj => by unfold tF; rw [if_pos (h6 j hj)])]
   rfl
section
variable {nm : ByteArray} {ps : List Pla} {ts : List Tra} (h : ValidN nm ps ts)
include h
theorem ValidN.plName {i : Nat} (hi : i < ps.length) : nmE ((ps.take i).map (·.f0)) (ps.getD i zP).f0 = 0 ∧ placeE (ps.getD i zP).f1 (ps.getD i zP).f2 = 0 := by
 have := h.pl i hi
 unfold plR at this
 by_cases c : nmE ((ps.take i).map (·.f0)) (ps.getD i zP).f0 = 0
 · rw [if_neg (by simpa using c)] at this; exact ⟨c, this⟩
 · rw [if_pos c] at this; exact absurd this c
theorem ValidN.trName {i : Nat} (hi : i < ts.length) : nmE (ps.map (·.f0) ++ (ts.take i).map (·.f0)) (ts.getD i zT).f0 = 0 ∧ transE (ps.length : Int) (ts.getD i zT) = 0 := by
 have := h.tr i hi
 unfold trR at this
 by_cases c : nmE (ps.map (·.f0) ++ (ts.take i).map (·.f0)) (ts.getD i zT).f0 = 0
 · rw [if_neg (by simpa using c)] at this; exact ⟨c, this⟩
 · rw [if_pos c] at this; exact absurd this c
theorem ValidN.arcs {i : Nat} (hi : i < ts.length) : (0 ≤ (ts.getD i zT).f4 ∧ (ts.getD i zT).f4 ≤ 9) ∧ arcsE (ps.length : Int) (ts.getD i zT).f1 = 0 ∧ arcsE (ps.length : Int) (ts.getD i zT).f2 = 0 ∧ arcsE (ps.length : Int) (ts.getD i zT).f3 = 0 := by
 have := (h.trName hi).2
 unfold transE at this
 by_cases c : (ts.getD i zT).f4 < 0 ∨ (ts.getD i zT).f4 > 9
 · rw [if_pos c] at this; exact absurd this (by decide)
 · rw [if_neg c] at this
   by_cases c1 : arcsE (ps.length : Int) (ts.getD i zT).f1 = 0
   · rw [if_neg (by simpa using c1)] at this
     by_cases c2 : arcsE (ps.length : Int) (ts.getD i zT).f2 = 0
     · rw [if_neg (by simpa using c2)] at this; exact ⟨by omega, c1, c2, this⟩
     · rw [if_pos c2] at this; exact absurd this c2
   · rw [if_pos c1] at this; exact absurd this c1
end
theorem arcE_none {np : Int} {l : List Ac} {i : Nat} (h : arcE np l i = none) : 0 ≤ (l.getD i zA).f0 ∧ (l.getD i zA).f0 < np ∧ (0 < i → (l.getD (i - 1) zA).f0 < (l.getD i zA).f0) ∧ 1 ≤ (l.getD i zA).f1 ∧ (l.getD i zA).f1 ≤ 99 := by
 unfold arcE at h
 by_cases c1 : (l.getD i zA).f0 < 0 ∨ (l.getD i zA).f0 ≥ np
 · rw [if_pos c1] at h; cases h
 · rw [if_neg c1] at h
   by_cases c2 : 0 < i ∧ (l.getD (i - 1) zA).f0 ≥ (l.getD i zA).f0
   · rw [if_pos c2] at h; cases h
   · rw [if_neg c2] at h
     by_cases c3 : (l.getD i zA).f1 < 1 ∨ (l.getD i zA).f1 > 99
     · rw [if_pos c3] at h; cases h
     · exact ⟨by omega, by omega, fun hi => Int.not_le.1 fun hc => c2 ⟨hi, hc⟩, by omega, by omega⟩
theorem arcE_some {np : Int} {l : List Ac} {i : Nat} {r : Int} (h : arcE np l i = some r) : r ≠ 0 := by
 unfold arcE at h
 by_cases c1 : (l.getD i zA).f0 < 0 ∨ (l.getD i zA).f0 ≥ np
 · rw [if_pos c1] at h; cases h; decide
 · rw [if_neg c1] at h
   by_cases c2 : 0 < i ∧ (l.getD (i - 1) zA).f0 ≥ (l.getD i zA).f0
   · rw [if_pos c2] at h; cases h; decide
   · rw [if_neg c2] at h
     by_cases c3 : (l.getD i zA).f1 < 1 ∨ (l.getD i zA).f1 > 99
     · rw [if_pos c3] at h; cases h; decide
     · rw [if_neg c3] at h; cases h
theorem arcsE_zero {np : Int} {l : List Ac} (h : arcsE np l = 0) : ∀ i, i < l.length → 0 ≤ (l.getD i zA).f0 ∧ (l.getD i zA).f0 < np ∧ (0 < i → (l.getD (i - 1) zA).f0 < (l.getD i zA).f0) ∧ 1 ≤ (l.getD i zA).f1 ∧ (l.getD i zA).f1 ≤ 99 := by
 intro i hi
 unfold arcsE at h
 rcases first_cases (arcE np l) 0 l.length with ⟨_, h2⟩ | ⟨j, _, h2, _⟩
 · exact arcE_none (h2 i hi)
 · rw [h] at h2
   exact absurd rfl (arcE_some h2)
theorem arcs_lt {np : Int} {l : List Ac} (h : arcsE np l = 0) {i j : Nat} (hij : i < j) (hj : j < l.length) : (l.getD i zA).f0 < (l.getD j zA).f0 := by
 obtain ⟨d, rfl⟩ : ∃ d, j = i + 1 + d := ⟨j - (i + 1), by omega⟩
 induction d with
 | zero => have := (arcsE_zero h (i + 1) hj).2.2.1 (by omega); simpa using this
 | succ d ih =>
   have h1 := ih (by omega) (by omega)
   have h2 := (arcsE_zero h (i + 1 + (d + 1)) hj).2.2.1 (by omega)
   rw [show i + 1 + (d + 1) - 1 = i + 1 + d by omega] at h2
   omega
/-- The weight of a place in a list without errors: positive exactly for the places of the list. -/
theorem weight_pos {np : Int} {l : List Ac} (h : arcsE np l = 0) (p : Int) : weightS l p > 0 ↔ p ∈ l.map (·.f0) := by
 unfold weightS
 rcases first_cases (fun i => if (l.getD i zA).f0 = p then some (l.getD i zA).f1 else none) 0 l.length with ⟨h1, h2⟩ | ⟨j, h1, h2, _⟩
 · rw [h1]
   constructor
   · intro hh; exact absurd hh (by decide)
   · intro hm
     obtain ⟨a, ha, rfl⟩ := List.mem_map.1 hm
     obtain ⟨i, hi, rfl⟩ := List.getElem_of_mem ha
     have := h2 i hi
     rw [List.getD_eq_getElem?_getD, List.getElem?_eq_getElem hi] at this
     simp at this
 · by_cases c : (l.getD j zA).f0 = p
   · simp only [c, if_true] at h2
     have := arcsE_zero h j h1
     constructor
     · intro _; exact List.mem_map.2 ⟨_, getD_mem l zA h1, c⟩
     · intro _; rw [← Option.some.inj h2]; omega
   · simp only [c, if_false] at h2; cases h2
end Go.Proofs.Ytnoebjmhimehcaa.Pl
/- The flow graph of a net: what it is, and that the program's text answers it. -/
namespace Go.Proofs.Ytnoebjmhimehcaa.Pl
set_option linter.unusedVariables false
open Go.RowKit Go.Proofs.Ytnoebjmhimehcaa.P Go.Proofs.YtnoebjmhimehcaaW.PrintWords Go.Proofs.YtnoebjmhimehcaaW.PrintMore


/-- The row of node v when i transitions are told. -/
def fr (ts : List Tra) (K i v : Nat) : List Int :=
 if v < K then ((List.range i).filter (fun t : Nat => decide (weightS (ts.getD t zT).f1 (v : Int) > 0))).map (fun t : Nat => ((K + t : Nat) : Int)) else if v - K < i then (ts.getD (v - K) zT).f2.map (·.f0) else []
def f1 (ts : List Tra) (K i j v : Nat) : List Int := fr ts K i v ++ (if v < K ∧ (v : Int) ∈ ((ts.getD i zT).f1.take j).map (·.f0) then [((K + i : Nat) : Int)] else [])
def f2 (ts : List Tra) (K i j v : Nat) : List Int := if v = K + i then ((ts.getD i zT).f2.take j).map (·.f0) else f1 ts K i (ts.getD i zT).f1.length v
theorem fr_len (ts : List Tra) (K i v : Nat) (hv : v < K) : (fr ts K i v).length ≤ i := by
 unfold fr
 rw [if_pos hv, List.length_map]
 exact Nat.le_trans (List.length_filter_le _ _) (by rw [List.length_range]; exact Nat.le_refl _)
theorem f1_zero (ts : List Tra) (K i v : Nat) : f1 ts K i 0 v = fr ts K i v := by unfold f1; simp
theorem f1_succ {ts : List Tra} {K i j : Nat} {np : Int} (ha : arcsE np (ts.getD i zT).f1 = 0) (hj : j < (ts.getD i zT).f1.length) (p : Nat) (hp : ((ts.getD i zT).f1.getD j zA).f0 = (p : Int)) (hk : p < K) (v : Nat) :
   f1 ts K i (j + 1) v = if v = p then f1 ts K i j p ++ [((K + i : Nat) : Int)] else f1 ts K i j v := by
 have hn : ∀ m, m < j → ((ts.getD i zT).f1.getD m zA).f0 ≠ (p : Int) := fun m hm e => by
   have := arcs_lt ha hm hj
   rw [hp, e] at this
   omega
 have hno : (p : Int) ∉ ((ts.getD i zT).f1.take j).map (·.f0) := fun hm => by
   obtain ⟨a, ha, e⟩ := List.mem_map.1 hm
   obtain ⟨m, hm, rfl⟩ := List.mem_take_iff_getElem.1 ha
   refine hn m (by omega) ?_
   rw [List.getD_eq_getElem?_getD, List.getElem?_eq_getElem (by omega)]
   exact e
 unfold f1
 rw [take_map_succ _ _ zA hj, hp]
 by_cases e : v = p
 · subst e
   rw [if_pos rfl, if_pos ⟨hk, by simp⟩, if_neg (fun h => hno h.2), List.append_nil]
 · rw [if_neg e]
   congr 1
   have : (v : Int) ∈ ((ts.getD i zT).f1.take j).map (·.f0) ++ [(p : Int)] ↔ (v : Int) ∈ ((ts.getD i zT).f1.take j).map (·.f0) := by
     rw [List.mem_append, List.mem_singleton]
     exact ⟨fun h => h.elim id (fun h => absurd h (by omega)), Or.inl⟩
   simp only [this]
theorem f2_last {ts : List Tra} {K i : Nat} {np : Int} (ha : arcsE np (ts.getD i zT).f1 = 0) (v : Nat) : f2 ts K i (ts.getD i zT).f2.length v = fr ts K (i + 1) v := by
 unfold f2 f1
 rw [List.take_length, List.take_length]
 by_cases e : v = K + i
 · subst e
   rw [if_pos rfl]
   unfold fr
   rw [if_neg (by omega), if_pos (by omega), show K + i - K = i by omega]
 · rw [if_neg e]
   unfold fr
   by_cases h : v < K
   · rw [if_pos h, if_pos h, filter_range_succ]
     have hw := weight_pos ha (v : Int)
     by_cases c : weightS (ts.getD i zT).f1 (v : Int) > 0
     · rw [if_pos ⟨h, hw.1 c⟩, if_pos (decide_eq_true c), List.map_append]; rfl
     · rw [if_neg (fun x => c (hw.2 x.2)), if_neg (by simpa using c), List.append_nil]
   · simp only [h, false_and, if_false, List.append_nil]
     by_cases h2 : v - K < i
     · rw [if_pos h2, if_pos (by omega)]
     · rw [if_neg h2, if_neg (by omega)]
def flowS (v : Bool) (ps : List Pla) (ts : List Tra) : List (List Int) := if v = true then mr (ps.length + ts.length) (fr ts ps.length ts.length) else []
theorem flow_ev (nm : ByteArray) {ps : List Pla} {ts : List Tra} (hT : Thin ts) : Ev (fun k => netclass_Flow.f k nm ps ts) (flowS (validS nm ps ts) ps ts) := by
 unfold netclass_Flow.f flowS
 refine Ev.bind (nvalid_ev nm hT) ?_
 by_cases hv : validS nm ps ts = true
 · have V := validS_iff.1 hv
   have hp := V.p
   have ht := V.t
   simp only [hv, ↓reduceIte]
   rw [wrap_ok (by omega) (by omega)]
   refine Ev.congr (f := fun k => netclass_Flow.l0 k (ps.length : Int) (mr (ps.length + ts.length) (fr ts ps.length 0)) ts (ts.length : Int) ((0 : Nat) : Int)) (fun k => by
     rw [if_pos (by omega), if_pos (by omega), show (((ps.length : Int) + (ts.length : Int)) : Int).toNat = ps.length + ts.length by omega, mr_rep, mr_congr (g := fr ts ps.length 0) (fun v _ => by unfold fr; simp)]; rfl) ?_
   refine Ev_up (L := fun k i => netclass_Flow.l0 k (ps.length : Int) (mr (ps.length + ts.length) (fr ts ps.length i)) ts (ts.length : Int) (i : Int)) (n := ts.length) (fun i hi hr => ?_) (Ev.one (fun k => by simp only [netclass_Flow.l0]; rw [if_neg (by omega)]))
   obtain ⟨_, ha1, ha2, _⟩ := V.arcs hi
   have l1 := (hT.at hi).2.1
   have l2 := (hT.at hi).2.2.1
   have hK := Aside0.mk (show wrap64 ((ps.length : Int) + (i : Int)) = ((ps.length + i : Nat) : Int) by rw [wrap_ok (by omega) (by omega)]; omega)
   refine Ev.step (f := fun k => netclass_Flow.l1 k (ps.length : Int) (mr (ps.length + ts.length) (f1 ts ps.length i 0)) (i : Int) ts (ts.length : Int) (i : Int) (ts.getD i zT).f1 ((ts.getD i zT).f1.length : Int) ((0 : Nat) : Int) (ts.getD i zT).f0 (ts.getD i zT).f1 (ts.getD i zT).f2 (ts.getD i zT).f3 (ts.getD i zT).f4) (fun k => by
     simp only [netclass_Flow.l0]
     rw [if_pos (by omega), if_pos (by omega), if_pos (by omega), rdT, mr_congr (g := f1 ts ps.length i 0) (fun v _ => (f1_zero _ _ _ _).symm)]; rfl) ?_
   refine Ev_up (L := fun k j => netclass_Flow.l1 k (ps.length : Int) (mr (ps.length + ts.length) (f1 ts ps.length i j)) (i : Int) ts (ts.length : Int) (i : Int) (ts.getD i zT).f1 ((ts.getD i zT).f1.length : Int) (j : Int) (ts.getD i zT).f0 (ts.getD i zT).f1 (ts.getD i zT).f2 (ts.getD i zT).f3 (ts.getD i zT).f4) (n := (ts.getD i zT).f1.length) (fun j hj hr1 => ?_) ?_
   · obtain ⟨a0, a1, _, _, _⟩ := arcsE_zero ha1 j hj
     obtain ⟨p, hpp⟩ : ∃ p : Nat, ((ts.getD i zT).f1.getD j zA).f0 = (p : Int) := ⟨_, (Int.toNat_of_nonneg a0).symm⟩
     have hpk : p < ps.length := by omega
     have hlen : (f1 ts ps.length i j p).length ≤ i + 1 := by
       unfold f1
       have := fr_len ts ps.length i p hpk
       rw [List.length_append]
       split <;> simp <;> omega
     refine Ev.step (fun k => ?_) hr1
     simp only [netclass_Flow.l1]
     rw [if_pos (by omega), if_pos (by omega), if_pos (by omega), rdA, hpp, if_pos (by omega), if_pos (by rw [mr_len]; omega), rdL, mr_get _ _ (by omega), if_pos (by omega), Int.toNat_natCast, hK.out, mr_set, wrap_up hj (by omega), mr_congr (f := f1 ts ps.length i (j + 1)) (fun v _ => f1_succ ha1 hj p hpp hpk v)]
   · refine Ev.step (f := fun k => netclass_Flow.l2 k (ps.length : Int) (mr (ps.length + ts.length) (f2 ts ps.length i 0)) (i : Int) ts (ts.length : Int) (i : Int) (ts.getD i zT).f2 ((ts.getD i zT).f2.length : Int) ((0 : Nat) : Int)) (fun k => by
       simp only [netclass_Flow.l1]
       rw [if_neg (by omega), mr_congr (g := f2 ts ps.length i 0) (fun v _ => by
         unfold f2 f1 fr
         by_cases e : v = ps.length + i
         · subst e; rw [if_pos rfl, if_neg (by omega), if_neg (by omega), if_neg (by omega)]; rfl
         · rw [if_neg e])]; rfl) ?_
     refine Ev_up (L := fun k j => netclass_Flow.l2 k (ps.length : Int) (mr (ps.length + ts.length) (f2 ts ps.length i j)) (i : Int) ts (ts.length : Int) (i : Int) (ts.getD i zT).f2 ((ts.getD i zT).f2.length : Int) (j : Int)) (n := (ts.getD i zT).f2.length) (fun j hj hr1 => ?_) ?_
     · refine Ev.step (fun k => ?_) hr1
       have e2 : f2 ts ps.length i j (ps.length + i) = ((ts.getD i zT).f2.take j).map (·.f0) := by unfold f2; rw [if_pos rfl]
       simp only [netclass_Flow.l2]
       rw [if_pos (by omega), if_pos (by omega), if_pos (by omega), rdA, hK.out, if_pos (by omega), if_pos (by rw [mr_len]; omega), rdL, mr_get _ _ (by omega), e2, if_pos (by rw [List.length_map, List.length_take]; omega), Int.toNat_natCast, mr_set, wrap_up hj (by omega), ← take_map_succ _ (fun a : Ac => a.f0) zA hj, mr_congr (f := f2 ts ps.length i (j + 1)) (fun v _ => show _ = if v = ps.length + i then _ else f2 ts ps.length i j v by unfold f2; split <;> rfl)]
     · refine Ev.step (fun k => ?_) hr
       simp only [netclass_Flow.l2]
       rw [if_neg (by omega), wrap_up hi (by omega), mr_congr (f := f2 ts ps.length i _) (fun v _ => f2_last ha1 v)]
 · simp only [hv]; exact Ev.some _
end Go.Proofs.Ytnoebjmhimehcaa.Pl
/- The flow graph of a valid net is small. -/
namespace Go.Proofs.Ytnoebjmhimehcaa.Pl
set_option linter.unusedVariables false
open Go.RowKit Go.Proofs.Ytnoebjmhimehcaa.P Go.Proofs.YtnoebjmhimehcaaW.PrintWords Go.Proofs.YtnoebjmhimehcaaW.PrintMore

theorem flow_len {v : Bool} {ps : List Pla} {ts : List Tra} (hv : v = true) : (flowS v ps ts).length = ps.length + ts.length := by unfold flowS; rw [if_pos hv, mr_len]
theorem flow_row {v : Bool} {ps : List Pla} {ts : List Tra} (hv : v = true) {x : Nat} (hx : x < ps.length + ts.length) : (flowS v ps ts).getD x [] = fr ts ps.length ts.length x := by unfold flowS; rw [if_pos hv, mr_get _ _ hx]
theorem arcs_bound {np : Nat} {l : List Ac} (h : arcsE (np : Int) l = 0) : l.length ≤ np := by
 refine Nat.le_of_not_lt fun hlt => ?_
 have : ∀ i, i < l.length → (i : Int) ≤ (l.getD i zA).f0 := by
   intro i
   induction i with
   | zero => intro hi; exact (arcsE_zero h 0 hi).1
   | succ i ih =>
     intro hi
     have h1 := ih (by omega)
     have h2 := (arcsE_zero h (i + 1) hi).2.2.1 (by omega)
     rw [show i + 1 - 1 = i by omega] at h2
     omega
 have h1 := this np hlt
 have h2 := (arcsE_zero h np hlt).2.1
 omega
theorem flow_few {nm : ByteArray} {ps : List Pla} {ts : List Tra} (V : ValidN nm ps ts) : (flowS true ps ts).length ≤ 320 ∧ ∀ u, u < (flowS true ps ts).length → ((flowS true ps ts).getD u []).length ≤ 600 := by
 have hp := V.p
 have ht := V.t
 rw [flow_len rfl]
 refine ⟨by omega, fun u hu => ?_⟩
 rw [flow_row rfl hu]
 by_cases h : u < ps.length
 · have := fr_len ts ps.length ts.length u h; omega
 · unfold fr
   rw [if_neg h, if_pos (by omega), List.length_map]
   have := arcs_bound (V.arcs (i := u - ps.length) (by omega)).2.2.1
   omega
end Go.Proofs.Ytnoebjmhimehcaa.Pl
/- The flow graph of a net: the reference's text. -/
namespace Go.Proofs.Ytnoebjmhimehcaa.Pl
set_option linter.unusedVariables false
open Go.RowKit Go.Proofs.Ytnoebjmhimehcaa.P Go.Proofs.YtnoebjmhimehcaaW.PrintWords Go.Proofs.YtnoebjmhimehcaaW.PrintMore

end Go.Proofs.Ytnoebjmhimehcaa.Pl
/- Plain graph theory over lists of successors: walks by length, walks through the first m vertices, shortest distances. -/
namespace Go.Proofs.Ytnoebjmhimehcaa.Pl
open Go.RowKit Go.Proofs.YtnoebjmhimehcaaW.PrintWords Go.Proofs.YtnoebjmhimehcaaW.PrintMore

/-- An edge between vertices. -/
def Ed (g : List (List Int)) (u v : Nat) : Prop := u < g.length ∧ v < g.length ∧ (v : Int) ∈ g.getD u []
/-- A walk of length k. -/
def Wk (g : List (List Int)) : Nat → Nat → Nat → Prop
 | 0, u, v => u = v ∧ u < g.length
 | k + 1, u, v => ∃ w, Ed g u w ∧ Wk g k w v
def R (g : List (List Int)) (u v : Nat) : Prop := ∃ k, Wk g k u v
def Rp (g : List (List Int)) (u v : Nat) : Prop := ∃ k, Wk g (k + 1) u v

section
variable {g : List (List Int)}
theorem Wk.lt : ∀ {k u v}, Wk g k u v → u < g.length ∧ v < g.length
 | 0, u, v, h => by obtain ⟨rfl, h⟩ := h; exact ⟨h, h⟩
 | k + 1, u, v, h => by obtain ⟨w, h1, h2⟩ := h; exact ⟨h1.1, (Wk.lt h2).2⟩
theorem Wk.add : ∀ {a b u v w}, Wk g a u v → Wk g b v w → Wk g (a + b) u w
 | 0, b, u, v, w, h, k => by obtain ⟨rfl, _⟩ := h; rw [Nat.zero_add]; exact k
 | a + 1, b, u, v, w, h, k => by
   obtain ⟨x, h1, h2⟩ := h
   rw [show a + 1 + b = (a + b) + 1 by omega]
   exact ⟨x, h1, Wk.add h2 k⟩
theorem Wk.one {u v : Nat} (h : Ed g u v) : Wk g 1 u v := ⟨v, h, rfl, h.2.1⟩
theorem Wk.split : ∀ {a b u w}, Wk g (a + b) u w → ∃ v, Wk g a u v ∧ Wk g b v w
 | 0, b, u, w, h => by rw [Nat.zero_add] at h; exact ⟨u, ⟨rfl, h.lt.1⟩, h⟩
 | a + 1, b, u, w, h => by
   rw [show a + 1 + b = (a + b) + 1 by omega] at h
   obtain ⟨x, h1, h2⟩ := h
   obtain ⟨v, h3, h4⟩ := Wk.split h2
   exact ⟨v, ⟨x, h1, h3⟩, h4⟩
theorem R.refl {u : Nat} (h : u < g.length) : R g u u := ⟨0, rfl, h⟩
theorem R.trans {u v w : Nat} (h : R g u v) (k : R g v w) : R g u w := by
 obtain ⟨a, h⟩ := h
 obtain ⟨b, k⟩ := k
 exact ⟨a + b, h.add k⟩
theorem R.edge {u v : Nat} (h : Ed g u v) : R g u v := ⟨1, Wk.one h⟩
theorem R.lt {u v : Nat} (h : R g u v) : u < g.length ∧ v < g.length := by obtain ⟨k, h⟩ := h; exact h.lt
theorem Rp.trans {u v w : Nat} (h : Rp g u v) (k : Rp g v w) : Rp g u w := by
 obtain ⟨a, h⟩ := h
 obtain ⟨b, k⟩ := k
 refine ⟨a + 1 + b, ?_⟩
 have := h.add k
 rwa [show a + 1 + (b + 1) = a + 1 + b + 1 by omega] at this

/-- A set that holds the start and with each vertex its successors holds all that can be reached. -/
theorem R.closed {p : Nat → Prop} (hs : ∀ u v, p u → Ed g u v → p v) {u v : Nat} (h : R g u v) (hu : p u) : p v := by
 obtain ⟨k, h⟩ := h
 induction k generalizing u with
 | zero => obtain ⟨rfl, _⟩ := h; exact hu
 | succ k ih => obtain ⟨w, h1, h2⟩ := h; exact ih (hs u w hu h1) h2

/-! ### through the first m vertices -/
inductive Via (g : List (List Int)) (m : Nat) : Nat → Nat → Prop
 | edge {u v : Nat} : Ed g u v → Via g m u v
 | join {u w v : Nat} : w < m → Via g m u w → Via g m w v → Via g m u v
theorem Via.up {m u v : Nat} (h : Via g m u v) : Via g (m + 1) u v := by
 induction h with
 | edge h => exact .edge h
 | join hw _ _ h1 h2 => exact .join (by omega) h1 h2
theorem Via.succ {m u v : Nat} : Via g (m + 1) u v ↔ Via g m u v ∨ (Via g m u m ∧ Via g m m v) := by
 constructor
 · intro h
   induction h with
   | edge h => exact .inl (.edge h)
   | @join u w v hw _ _ h1 h2 =>
     by_cases e : w = m
     · subst e
       have a1 : Via g w u w := h1.elim id (fun h => h.1)
       have a2 : Via g w w v := h2.elim id (fun h => h.2)
       exact .inr ⟨a1, a2⟩
     · have hw' : w < m := by omega
       rcases h1 with h1 | h1 <;> rcases h2 with h2 | h2
       · exact .inl (.join hw' h1 h2)
       · exact .inr ⟨.join hw' h1 h2.1, h2.2⟩
       · exact .inr ⟨h1.1, .join hw' h1.2 h2⟩
       · exact .inr ⟨h1.1, h2.2⟩
 · rintro (h | ⟨h1, h2⟩)
   · exact h.up
   · exact .join (Nat.lt_succ_self _) h1.up h2.up
theorem Via.zero {u v : Nat} : Via g 0 u v ↔ Ed g u v := by
 constructor
 · intro h
   cases h with
   | edge h => exact h
   | join hw _ _ => omega
 · exact .edge
theorem Via.all {u v : Nat} : Via g g.length u v ↔ Rp g u v := by
 constructor
 · intro h
   induction h with
   | edge h => exact ⟨0, Wk.one h⟩
   | join _ _ _ h1 h2 => exact h1.trans h2
 · rintro ⟨k, h⟩
   induction k generalizing u with
   | zero => obtain ⟨w, h1, rfl, _⟩ := h; exact .edge h1
   | succ k ih => obtain ⟨w, h1, h2⟩ := h; exact .join h1.2.1 (.edge h1) (ih h2)

/-! ### a list without repetitions below n has at most n elements -/
theorem nodup_le : ∀ (n : Nat) (l : List Nat), l.Nodup → (∀ x ∈ l, x < n) → l.length ≤ n
 | 0, l, _, h => by
   cases l with
   | nil => simp
   | cons a l => exact absurd (h a (by simp)) (by omega)
 | n + 1, l, hd, h => by
   by_cases hn : n ∈ l
   · have h1 := nodup_le n (l.erase n) (hd.erase n) (fun x hx => by
       have h2 := h x (List.mem_of_mem_erase hx)
       have h3 : x ≠ n := fun e => by subst e; exact (List.Nodup.not_mem_erase hd) hx
       omega)
     rw [List.length_erase_of_mem hn] at h1
     omega
   · have := nodup_le n l hd (fun x hx => by
       have h2 := h x hx
       have h3 : x ≠ n := fun e => hn (e ▸ hx)
       omega)
     omega

/-! ### shortest distances to a vertex -/
def Near (g : List (List Int)) (k u t : Nat) : Prop := Wk g k u t ∧ ∀ j, j < k → ¬ Wk g j u t
theorem Near.uniq {a b u t : Nat} (h : Near g a u t) (k : Near g b u t) : a = b := by
 rcases Nat.lt_trichotomy a b with h1 | h1 | h1
 · exact absurd h.1 (k.2 a h1)
 · exact h1
 · exact absurd k.1 (h.2 b h1)
theorem Near.next {k u t : Nat} (h : Near g (k + 1) u t) : ∃ w, Ed g u w ∧ Near g k w t := by
 obtain ⟨⟨w, h1, h2⟩, h3⟩ := h
 exact ⟨w, h1, h2, fun j hj hw => h3 (j + 1) (by omega) ⟨w, h1, hw⟩⟩
/-- On the way there is a vertex at each smaller distance. -/
theorem Near.down {t : Nat} : ∀ {k u : Nat}, Near g k u t → ∃ l : List Nat, l.Nodup ∧ l.length = k + 1 ∧ ∀ x ∈ l, ∃ j, j ≤ k ∧ Near g j x t
 | 0, u, h => ⟨[u], by simp, rfl, fun x hx => by simp at hx; subst hx; exact ⟨0, Nat.le_refl _, h⟩⟩
 | k + 1, u, h => by
   obtain ⟨w, _, hw⟩ := h.next
   obtain ⟨l, h1, h2, h3⟩ := Near.down hw
   refine ⟨u :: l, List.nodup_cons.2 ⟨fun hu => ?_, h1⟩, by simp [h2], fun x hx => ?_⟩
   · obtain ⟨j, hj, hn⟩ := h3 u hu
     have := hn.uniq h
     omega
   · rcases List.mem_cons.1 hx with rfl | hx
     · exact ⟨k + 1, Nat.le_refl _, h⟩
     · obtain ⟨j, hj, hn⟩ := h3 x hx
       exact ⟨j, by omega, hn⟩
theorem Near.lt {k u t : Nat} (h : Near g k u t) : k < g.length := by
 obtain ⟨l, h1, h2, h3⟩ := h.down
 have := nodup_le g.length l h1 (fun x hx => by obtain ⟨j, _, hn⟩ := h3 x hx; exact hn.1.lt.1)
 omega
end
end Go.Proofs.Ytnoebjmhimehcaa.Pl
/- What small functions of the graphs' law answer. -/
namespace Go.Proofs.Ytnoebjmhimehcaa.Pl
open Go.RowKit Go.Proofs.Ytnoebjmhimehcaa.P Go.Proofs.YtnoebjmhimehcaaW.PrintWords Go.Proofs.YtnoebjmhimehcaaW.PrintMore


/-! ### few -/
def Few (g : List (List Int)) : Prop := g.length ≤ 320 ∧ ∀ u, u < g.length → (g.getD u []).length ≤ 1000
end Go.Proofs.Ytnoebjmhimehcaa.Pl
/- Reachability: the search over a stack. -/
namespace Go.Proofs.Ytnoebjmhimehcaa.Pl
open Go.RowKit Go.Proofs.Ytnoebjmhimehcaa.P Go.Proofs.YtnoebjmhimehcaaW.PrintWords Go.Proofs.YtnoebjmhimehcaaW.PrintMore
theorem cnt_set' {α : Type} (p : α → Bool) : ∀ (l : List α) (i : Nat) (x d : α), i < l.length → (l.set i x).countP p + (if p (l.getD i d) then 1 else 0) = l.countP p + (if p x then 1 else 0)
 | [], i, x, d, h => absurd h (by simp)
 | a :: l, 0, x, d, h => by simp [List.countP_cons]; omega
 | a :: l, i + 1, x, d, h => by
   have := cnt_set' p l i x d (by simpa using h)
   simp only [List.set_cons_succ, List.countP_cons, List.getD_cons_succ]
   omega
section
variable {g : List (List Int)}
/-- Reached from one of the first i numbers of the list. -/
def From (g : List (List Int)) (xs : List Int) (i v : Nat) : Prop := ∃ j s : Nat, j < i ∧ rd xs (j : Int) = (s : Int) ∧ R g s v
def IsReach (g : List (List Int)) (xs : List Int) (out : List Bool) : Prop := out.length = g.length ∧ ∀ v, v < g.length → (out.getD v false = true ↔ From g xs xs.length v)
theorem IsReach.uniq {xs : List Int} {a b : List Bool} (h : IsReach g xs a) (k : IsReach g xs b) : a = b := by
 refine ext_rdOf false (h.1.trans k.1.symm) (fun i hi => ?_)
 rw [rdOf_nat, rdOf_nat]
 have hi' : i < g.length := by rw [← h.1]; exact hi
 exact Bool.eq_iff_iff.2 ((h.2 i hi').trans (k.2 i hi').symm)
/-! ### the search over a stack -/
def tr (b : Bool) : Bool := !b
/-- S: what may be marked; pend: the vertex whose list is gone through. -/
structure RC (g : List (List Int)) (S : Nat → Prop) (pend : Nat → Prop) (M : Nat) (out : List Bool) (todo : List Int) : Prop where
 len : out.length = g.length
 tin : ∀ a ∈ todo, ∃ x : Nat, a = (x : Int) ∧ x < g.length ∧ out.getD x false = true
 sound : ∀ y, y < g.length → out.getD y false = true → S y
 closed : ∀ y, y < g.length → out.getD y false = true → (y : Int) ∈ todo ∨ pend y ∨ ∀ z, Ed g y z → out.getD z false = true
 size : 2 * out.countP tr + todo.length ≤ M
theorem visit_go {S pend : Nat → Prop} {M : Nat} {out : List Bool} {todo : List Int} (h : RC g S pend M out todo) (hM : M ≤ 100000) (w : Int) (hw : ∀ x : Nat, w = (x : Int) → x < g.length → S x) :
   ∃ p : List Bool × List Int, visitM g out todo w = some p ∧ RC g S pend M p.1 p.2 ∧ (∀ x : Nat, w = (x : Int) → x < g.length → p.1.getD x false = true) ∧ (∀ y, out.getD y false = true → p.1.getD y false = true) := by
 obtain ⟨len, tin, sound, closed, size⟩ := h
 by_cases c : 0 ≤ w ∧ w < (g.length : Int)
 · obtain ⟨c0, c1⟩ := c
   obtain ⟨x, rfl⟩ : ∃ x : Nat, w = (x : Int) := ⟨w.toNat, by omega⟩
   have hx : x < g.length := by omega
   by_cases d : out.getD x false = true
   · refine ⟨(out, todo), ?_, ⟨len, tin, sound, closed, size⟩, fun y hy _ => by rw [show y = x by omega]; exact d, fun y h => h⟩
     unfold visitM
     rw [if_pos c0, if_pos c1, rdOf_nat, if_pos d]
   · have d' : out.getD x false = false := by simpa using d
     have hg : ∀ y, (out.set x true).getD y false = if y = x then true else out.getD y false := fun y => getD_set _ _ _ _ _ (by omega)
     have hc : (out.set x true).countP tr + 1 = out.countP tr := by
       have := cnt_set' tr out x true false (by omega)
       rw [d'] at this
       simp [tr] at this
       exact this
     have hmono : ∀ y, out.getD y false = true → (out.set x true).getD y false = true := fun y h => by
       rw [hg]; split
       · rfl
       · exact h
     refine ⟨(out.set x true, todo ++ [(x : Int)]), ?_, ⟨by rw [List.length_set]; exact len, fun a ha => ?_, fun y hy h => ?_, fun y hy h => ?_, ?_⟩, fun y hy _ => ?_, hmono⟩
     · unfold visitM
       rw [if_pos c0, if_pos c1, rdOf_nat, if_neg d, if_pos (by omega), Int.toNat_natCast]
     · rcases List.mem_append.1 ha with ha | ha
       · obtain ⟨y, h1, h2, h3⟩ := tin a ha
         exact ⟨y, h1, h2, hmono y h3⟩
       · simp at ha
         exact ⟨x, ha, hx, by rw [hg, if_pos rfl]⟩
     · rw [hg] at h
       by_cases e : y = x
       · subst e; exact hw y rfl hy
       · rw [if_neg e] at h; exact sound y hy h
     · by_cases e : y = x
       · exact .inl (by rw [e]; simp)
       · rw [hg, if_neg e] at h
         rcases closed y hy h with h | h | h
         · exact .inl (List.mem_append.2 (.inl h))
         · exact .inr (.inl h)
         · exact .inr (.inr fun z hz => hmono z (h z hz))
     · rw [List.length_append]
       simp
       omega
     · have : y = x := by omega
       rw [this, hg, if_pos rfl]
 · refine ⟨(out, todo), ?_, ⟨len, tin, sound, closed, size⟩, fun y hy h => absurd (by omega) c, fun y h => h⟩
   unfold visitM
   by_cases c0 : 0 ≤ w
   · rw [if_pos c0, if_neg (fun c1 => c ⟨c0, c1⟩)]
   · rw [if_neg c0]
theorem reach_loop (hf : Few g) {S : Nat → Prop} (hS : ∀ u v, S u → Ed g u v → S v) : ∀ (M : Nat) (out : List Bool) (todo : List Int), RC g S (fun _ => False) M out todo → M ≤ 100000 →
   ∃ o, Ev (fun k => digraph_Reach.l1 k g out todo) o ∧ RC g S (fun _ => False) M o [] ∧ ∀ y, out.getD y false = true → o.getD y false = true := by
 intro M
 induction M using Nat.strongRecOn with
 | _ M ih =>
 intro out todo h hM
 by_cases c : 0 < (todo.length : Int)
 · obtain ⟨v, hv, hvg, hvo⟩ := h.tin _ (rd_mem (xs := todo) (i := (todo.length : Int) - 1) (by omega) (by omega))
   have hsz := h.size
   have h20 := hf.2 v hvg
   have hdrop : todo = todo.take (todo.length - 1) ++ [(v : Int)] := by
     have e1 := List.take_append_drop (todo.length - 1) todo
     have e2 : todo.drop (todo.length - 1) = [(v : Int)] := by
       rw [List.drop_eq_getElem_cons (by omega), List.drop_eq_nil_of_le (by omega)]
       congr 1
       rw [← hv, show (todo.length : Int) - 1 = ((todo.length - 1 : Nat) : Int) by omega, rd_nat, List.getD_eq_getElem?_getD, List.getElem?_eq_getElem (by omega)]
       rfl
     rw [e2] at e1
     exact e1.symm
   obtain ⟨p, ⟨hp, hpm, hprog⟩, hk⟩ := Ev_for (l := fun k (p : List Bool × List Int) i => digraph_Reach.l2 k g p.1 p.2 (g.getD v []) i) (n := (g.getD v []).length)
     (inv := fun i p => RC g S (fun y => y = v) (M - 1) p.1 p.2 ∧ (∀ y, out.getD y false = true → p.1.getD y false = true) ∧ ∀ j, j < i → ∀ x : Nat, rd (g.getD v []) (j : Int) = (x : Int) → x < g.length → p.1.getD x false = true)
     (fun i p hi ⟨hp, hpm, hprog⟩ => by
       obtain ⟨q, hq1, hq2, hq3, hq4⟩ := visit_go hp (by omega) (rd (g.getD v []) (i : Int)) (fun x hx hxg => hS v x (h.sound v hvg hvo) ⟨hvg, hxg, by rw [← hx]; exact rd_mem (by omega) (by omega)⟩)
       refine ⟨q, ⟨hq2, fun y hy => hq4 y (hpm y hy), fun j hj x hx hxg => ?_⟩, fun r h => Ev.step (f := fun k => digraph_Reach.l2 k g q.1 q.2 (g.getD v []) ((i + 1 : Nat) : Int)) (fun k => ?_) h⟩
       · by_cases e : j = i
         · subst e; exact hq3 x hx hxg
         · exact hq4 x (hprog j (by omega) x hx hxg)
       · simp only [digraph_Reach.l2]
         rw [if_pos (by omega), if_pos (by omega), hq1, wrap_up hi (by omega)]
         rfl)
     (Nat.zero_le _) (s := (out, todo.take (todo.length - 1))) ⟨⟨h.len, fun a ha => h.tin a (List.mem_of_mem_take ha), h.sound, fun y hy hyo => by
         rcases h.closed y hy hyo with h1 | h1 | h1
         · rw [hdrop] at h1
           rcases List.mem_append.1 h1 with h1 | h1
           · exact .inl h1
           · simp at h1
             exact .inr (.inl (by omega))
         · exact h1.elim
         · exact .inr (.inr h1), by
           show 2 * out.countP tr + (todo.take (todo.length - 1)).length ≤ M - 1
           rw [List.length_take]; omega⟩, fun y hy => hy, fun j hj => absurd hj (Nat.not_lt_zero _)⟩
   obtain ⟨o2, t2⟩ := p
   have hp' : RC g S (fun _ => False) (M - 1) o2 t2 := ⟨hp.len, hp.tin, hp.sound, fun y hy hyo => by
     rcases hp.closed y hy hyo with h1 | h1 | h1
     · exact .inl h1
     · subst h1
       refine .inr (.inr fun z hz => ?_)
       obtain ⟨j, hj, e⟩ := mem_rd hz.2.2
       exact hprog j hj z e hz.2.1
     · exact .inr (.inr h1), hp.size⟩
   obtain ⟨o, ho1, ho2, ho3⟩ := ih (M - 1) (by omega) o2 t2 hp' (by omega)
   refine ⟨o, Ev.step (f := fun k => digraph_Reach.l2 k g out (todo.take (todo.length - 1)) (g.getD v []) 0) (fun k => ?_) (hk o (Ev.step (fun k => ?_) ho1)), ⟨ho2.len, ho2.tin, ho2.sound, ho2.closed, by have := ho2.size; omega⟩, fun y hy => ho3 y (hpm y hy)⟩
   · simp only [digraph_Reach.l1]
     rw [if_pos c, hv, if_pos (by omega), if_pos (by omega), rdL]
   · simp only [digraph_Reach.l2]
     rw [if_neg (by omega)]
 · have e : todo = [] := List.eq_nil_of_length_eq_zero (by omega)
   subst e
   exact ⟨out, Ev.one (fun k => by simp only [digraph_Reach.l1]; rw [if_neg c]), h, fun y hy => hy⟩
theorem reach_ev (hf : Few g) (xs : List Int) (hx : xs.length ≤ 1000) : ∃ out, Ev (fun k => digraph_Reach.f k g xs) out ∧ IsReach g xs out := by
 have g12 := hf.1
 have hS : ∀ u v, From g xs xs.length u → Ed g u v → From g xs xs.length v := fun u v ⟨j, s, h1, h2, h3⟩ he => ⟨j, s, h1, h2, h3.trans (R.edge he)⟩
 obtain ⟨p, ⟨hp, hprog⟩, hk⟩ := Ev_for (l := fun k (p : List Bool × List Int) i => digraph_Reach.l0 k g xs p.1 p.2 i) (n := xs.length)
   (inv := fun i p => RC g (From g xs xs.length) (fun _ => False) 1000 p.1 p.2 ∧ ∀ j, j < i → ∀ x : Nat, rd xs (j : Int) = (x : Int) → x < g.length → p.1.getD x false = true)
   (fun i p hi ⟨hp, hprog⟩ => by
     obtain ⟨q, hq1, hq2, hq3, hq4⟩ := visit_go hp (by omega) (rd xs (i : Int)) (fun x hx hxg => ⟨i, x, hi, hx, R.refl hxg⟩)
     refine ⟨q, ⟨hq2, fun j hj x hx hxg => ?_⟩, fun r h => Ev.step (f := fun k => digraph_Reach.l0 k g xs q.1 q.2 ((i + 1 : Nat) : Int)) (fun k => ?_) h⟩
     · by_cases e : j = i
       · subst e; exact hq3 x hx hxg
       · exact hq4 x (hprog j (by omega) x hx hxg)
     · simp only [digraph_Reach.l0]
       rw [if_pos (by omega), if_pos (by omega), hq1, wrap_up hi (by omega)]
       rfl)
   (Nat.zero_le _) (s := (List.replicate g.length false, [])) ⟨⟨by simp, fun a ha => (by cases ha), fun y hy h => by
       simp [List.getD_eq_getElem?_getD, hy] at h, fun y hy h => by
       simp [List.getD_eq_getElem?_getD, hy] at h, by
       have : (List.replicate g.length false).countP tr ≤ (List.replicate g.length false).length := List.countP_le_length
       simp at this ⊢
       omega⟩, fun j hj => absurd hj (Nat.not_lt_zero _)⟩
 obtain ⟨o1, t1⟩ := p
 obtain ⟨o, ho1, ho2, ho3⟩ := reach_loop hf hS 1000 o1 t1 hp (by omega)
 refine ⟨o, ?_, ho2.len, fun v hv => ⟨ho2.sound v hv, fun ⟨j, s, h1, h2, h3⟩ => ?_⟩⟩
 · refine Ev.congr (f := fun k => digraph_Reach.l0 k g xs (List.replicate g.length false) [] 0) (fun k => ?_) (hk o (Ev.step (fun k => ?_) ho1))
   · unfold digraph_Reach.f
     rw [if_pos (by omega)]
   · simp only [digraph_Reach.l0]
     rw [if_neg (by omega)]
 · have hs := ho3 s (hprog j h1 s h2 h3.lt.1)
   exact R.closed (p := fun y => o.getD y false = true) (fun a b ha hab => by
     rcases ho2.closed a hab.1 ha with h | h | h
     · cases h
     · exact h.elim
     · exact h b hab) h3 hs

end
end Go.Proofs.Ytnoebjmhimehcaa.Pl
/- Reversal: the lists of predecessors, ascending, without repetitions. -/
namespace Go.Proofs.Ytnoebjmhimehcaa.Pl
open Go.RowKit Go.Proofs.Ytnoebjmhimehcaa.P Go.Proofs.YtnoebjmhimehcaaW.PrintWords Go.Proofs.YtnoebjmhimehcaaW.PrintMore

/-- The predecessors of v below u. -/
def preds (g : List (List Int)) (v u : Nat) : List Int := ((List.range u).filter (fun x => decide ((v : Int) ∈ g.getD x []))).map (fun x : Nat => (x : Int))
theorem preds_succ (g : List (List Int)) (v u : Nat) : preds g v (u + 1) = preds g v u ++ (if (v : Int) ∈ g.getD u [] then [(u : Int)] else []) := by
 unfold preds
 rw [List.range_succ, List.filter_append, List.map_append]
 congr 1
 by_cases h : (v : Int) ∈ g.getD u []
 · rw [if_pos h, List.filter_cons_of_pos (by simpa using h)]; rfl
 · rw [if_neg h, List.filter_cons_of_neg (by simpa using h)]; rfl
theorem preds_mem {g : List (List Int)} {v u : Nat} {x : Int} : x ∈ preds g v u ↔ ∃ y : Nat, y < u ∧ x = (y : Int) ∧ (v : Int) ∈ g.getD y [] := by
 unfold preds
 simp only [List.mem_map, List.mem_filter, List.mem_range, decide_eq_true_eq]
 constructor
 · rintro ⟨y, ⟨h1, h2⟩, rfl⟩; exact ⟨y, h1, rfl, h2⟩
 · rintro ⟨y, h1, rfl, h2⟩; exact ⟨y, ⟨h1, h2⟩, rfl⟩
theorem preds_len (g : List (List Int)) (v u : Nat) : (preds g v u).length ≤ u := by
 unfold preds
 rw [List.length_map]
 exact Nat.le_trans (List.length_filter_le _ _) (by simp)
/-- The lists of predecessors. -/
def rev (g : List (List Int)) : List (List Int) := (List.range g.length).map (fun v => preds g v g.length)
theorem rev_len (g : List (List Int)) : (rev g).length = g.length := by simp [rev]
theorem rev_row (g : List (List Int)) (v : Nat) (hv : v < g.length) : (rev g).getD v [] = preds g v g.length := by
 unfold rev
 rw [List.getD_eq_getElem?_getD, List.getElem?_map, List.getElem?_range hv]; rfl
theorem rev_ed {g : List (List Int)} {u v : Nat} : Ed (rev g) u v ↔ Ed g v u := by
 unfold Ed
 rw [rev_len]
 constructor
 · rintro ⟨h1, h2, h3⟩
   rw [rev_row g u h1, preds_mem] at h3
   obtain ⟨y, hy, e, hm⟩ := h3
   have : y = v := by omega
   subst this
   exact ⟨h2, h1, hm⟩
 · rintro ⟨h1, h2, h3⟩
   refine ⟨h2, h1, ?_⟩
   rw [rev_row g u h2, preds_mem]
   exact ⟨v, h1, rfl, h3⟩
theorem rev_few {g : List (List Int)} (h : Few g) : Few (rev g) := by
 have g12 := h.1
 refine ⟨by rw [rev_len]; exact g12, fun u hu => ?_⟩
 rw [rev_len] at hu
 rw [rev_row g u hu]
 have := preds_len g u g.length
 omega

/-- Rows while vertex u's list is gone through, up to place i. -/
def RevAt (g : List (List Int)) (u i : Nat) (x : List (List Int)) : Prop := x.length = g.length ∧ ∀ v, v < g.length → x.getD v [] = preds g v u ++ (if (v : Int) ∈ (g.getD u []).take i then [(u : Int)] else [])
theorem last_is (l : List Int) (u : Int) : rd (l ++ [u]) (((l ++ [u]).length : Int) - 1) = u := by
 rw [rd_app _ _ _ (by simp), if_pos (by simp)]
theorem last_not {l : List Int} {u : Int} (h0 : l.length ≠ 0) (h : ∀ x ∈ l, x ≠ u) : rd l ((l.length : Int) - 1) ≠ u := h _ (rd_mem (by omega) (by omega))
theorem take_succ_mem {l : List Int} {i : Nat} (hi : i < l.length) {x : Int} : x ∈ l.take (i + 1) ↔ x ∈ l.take i ∨ x = rd l (i : Int) := by
 rw [List.take_succ_eq_append_getElem hi, List.mem_append, rd_nat, List.getD_eq_getElem?_getD, List.getElem?_eq_getElem hi]
 simp
theorem rev_step (g : List (List Int)) (hg : Few g) (u : Nat) (hu : u < g.length) (i : Nat) (hi : i < (g.getD u []).length) (x : List (List Int)) (h : RevAt g u i x) :
   ∃ x', RevAt g u (i + 1) x' ∧ ∀ r, Ev (fun k => digraph_Reverse.l1 k g x' (u : Int) g (g.length : Int) (u : Int) (g.getD u []) ((g.getD u []).length : Int) ((i + 1 : Nat) : Int)) r → Ev (fun k => digraph_Reverse.l1 k g x (u : Int) g (g.length : Int) (u : Int) (g.getD u []) ((g.getD u []).length : Int) (i : Int)) r := by
 obtain ⟨hl, hx⟩ := h
 have h20 := hg.2 u hu
 have g12 := hg.1
 obtain ⟨w, hw⟩ : ∃ w, w = rd (g.getD u []) (i : Int) := ⟨_, rfl⟩
 by_cases c1 : 0 ≤ w ∧ w < (g.length : Int)
 · obtain ⟨w0, w1⟩ := c1
   have hin : digraph_inside.f g w = some true := by unfold digraph_inside.f; rw [if_pos w0, decide_eq_true w1]
   obtain ⟨v, rfl⟩ : ∃ v : Nat, w = (v : Int) := ⟨w.toNat, by omega⟩
   have hv : v < g.length := by omega
   by_cases c2 : (v : Int) ∈ (g.getD u []).take i
   · have hrow := hx v hv
     rw [if_pos c2] at hrow
     refine ⟨x, ⟨hl, fun y hy => ?_⟩, fun r h => Ev.step (fun k => ?_) h⟩
     · rw [hx y hy]
       congr 1
       have e : ((y : Int) ∈ (g.getD u []).take (i + 1)) ↔ ((y : Int) ∈ (g.getD u []).take i) := by
         rw [take_succ_mem hi, ← hw]
         exact ⟨fun h => h.elim id (fun h => by rw [h]; exact c2), .inl⟩
       simp only [e]
     · simp only [digraph_Reverse.l1]
       rw [if_pos (by omega), if_pos (by omega), if_pos (by omega), ← hw, hin]
       simp only [Option.bind_some]
       rw [if_pos trivial, if_pos w0, if_pos (by omega), rdL, hrow, if_neg (by simp; omega), wrap_ok (by rw [List.length_append]; omega) (by have := preds_len g v u; simp; omega), if_pos (by simp), if_pos (by omega), if_pos (last_is _ _), wrap_up hi (by omega)]
   · have hrow := hx v hv
     rw [if_neg c2, List.append_nil] at hrow
     refine ⟨x.set v (preds g v u ++ [(u : Int)]), ⟨by rw [List.length_set]; exact hl, fun y hy => ?_⟩, fun r h => Ev.step (fun k => ?_) h⟩
     · rw [getD_set _ _ _ _ _ (by omega)]
       by_cases e : y = v
       · subst e
         rw [if_pos rfl, if_pos ((take_succ_mem hi).2 (.inr hw))]
       · rw [if_neg e, hx y hy]
         congr 1
         have e : ((y : Int) ∈ (g.getD u []).take (i + 1)) ↔ ((y : Int) ∈ (g.getD u []).take i) := by
           rw [take_succ_mem hi, ← hw]
           exact ⟨fun h => h.elim id (fun h => by omega), .inl⟩
         simp only [e]
     · simp only [digraph_Reverse.l1]
       have hp := preds_len g v u
       rw [if_pos (by omega), if_pos (by omega), if_pos (by omega), ← hw, hin]
       simp only [Option.bind_some]
       rw [if_pos trivial, if_pos w0, if_pos (by omega), rdL, hrow]
       by_cases c3 : ((preds g v u).length : Int) = 0
       · rw [if_pos c3, if_pos (by omega), wrap_up hi (by omega), Int.toNat_natCast]
       · rw [if_neg c3, wrap_ok (by omega) (by omega), if_pos (by omega), if_pos (by omega), if_neg (last_not (by omega) (fun z hz => by
           obtain ⟨y, hy, rfl, _⟩ := preds_mem.1 hz
           omega)), if_pos (by omega), wrap_up hi (by omega), Int.toNat_natCast]
 · have hin : digraph_inside.f g w = some false := by
     unfold digraph_inside.f
     by_cases h0 : w ≥ 0
     · rw [if_pos h0, decide_eq_false (fun h1 => c1 ⟨h0, h1⟩)]
     · rw [if_neg h0]
   refine ⟨x, ⟨hl, fun y hy => ?_⟩, fun r h => Ev.step (fun k => ?_) h⟩
   · rw [hx y hy]
     congr 1
     have e : ((y : Int) ∈ (g.getD u []).take (i + 1)) ↔ ((y : Int) ∈ (g.getD u []).take i) := by
       rw [take_succ_mem hi, ← hw]
       exact ⟨fun h => h.elim id (fun h => absurd (by omega) c1), .inl⟩
     simp only [e]
   · simp only [digraph_Reverse.l1]
     rw [if_pos (by omega), if_pos (by omega), if_pos (by omega), ← hw, hin]
     simp only [Option.bind_some]
     rw [if_neg (by decide), wrap_up hi (by omega)]
theorem reverse_ev (g : List (List Int)) (hg : Few g) : Ev (fun k => digraph_Reverse.f k g) (rev g) := by
 have g12 := hg.1
 obtain ⟨x, ⟨hl, hx⟩, hk⟩ := Ev_for (l := fun k (x : List (List Int)) i => digraph_Reverse.l0 k g x g (g.length : Int) i) (n := g.length) (inv := fun u x => x.length = g.length ∧ ∀ v, v < g.length → x.getD v [] = preds g v u)
   (fun u x hu ⟨hl, hx⟩ => by
     obtain ⟨x', ⟨hl', hx'⟩, hk'⟩ := Ev_for (l := fun k (x : List (List Int)) i => digraph_Reverse.l1 k g x (u : Int) g (g.length : Int) (u : Int) (g.getD u []) ((g.getD u []).length : Int) i) (n := (g.getD u []).length) (inv := fun i x => RevAt g u i x) (fun i x hi h => rev_step g hg u hu i hi x h) (Nat.zero_le _) (s := x) ⟨hl, fun v hv => by rw [hx v hv]; simp⟩
     refine ⟨x', ⟨hl', fun v hv => ?_⟩, fun r h => Ev.step (f := fun k => digraph_Reverse.l1 k g x (u : Int) g (g.length : Int) (u : Int) (g.getD u []) ((g.getD u []).length : Int) 0) (fun k => ?_) (hk' r (Ev.step (fun k => ?_) h))⟩
     · rw [hx' v hv, preds_succ, List.take_length]
     · simp only [digraph_Reverse.l0]
       rw [if_pos (by omega), if_pos (by omega), if_pos (by omega), rdL]
     · simp only [digraph_Reverse.l1]
       rw [if_neg (by omega), wrap_up hu (by omega)])
   (Nat.zero_le _) (s := List.replicate g.length []) ⟨by simp, fun v hv => by rw [List.getD_eq_getElem?_getD, List.getElem?_replicate, if_pos hv]; rfl⟩
 have e : x = rev g := by
   refine List.ext_getElem (by rw [hl, rev_len]) (fun i h1 h2 => ?_)
   have h3 := hx i (by omega)
   rw [← rev_row g i (by omega), List.getD_eq_getElem?_getD, List.getD_eq_getElem?_getD, List.getElem?_eq_getElem h1, List.getElem?_eq_getElem h2] at h3
   exact h3
 rw [← e]
 refine Ev.congr (f := fun k => digraph_Reverse.l0 k g (List.replicate g.length []) g (g.length : Int) 0) (fun k => ?_) (hk x (Ev.one (fun k => by simp only [digraph_Reverse.l0]; rw [if_neg (by omega)])))
 unfold digraph_Reverse.f
 rw [if_pos (by omega), if_pos (by omega), Int.toNat_natCast]

end Go.Proofs.Ytnoebjmhimehcaa.Pl
/- The reference's table of edges. -/
namespace Go.Proofs.Ytnoebjmhimehcaa.Pl
open Go.RowKit Go.Proofs.Ytnoebjmhimehcaa.P Go.Proofs.YtnoebjmhimehcaaW.PrintWords Go.Proofs.YtnoebjmhimehcaaW.PrintMore
/-! ### the table of edges -/
end Go.Proofs.Ytnoebjmhimehcaa.Pl
/- Reversal, the reference's. -/
namespace Go.Proofs.Ytnoebjmhimehcaa.Pl
open Go.RowKit Go.Proofs.Ytnoebjmhimehcaa.P Go.Proofs.YtnoebjmhimehcaaW.PrintWords Go.Proofs.YtnoebjmhimehcaaW.PrintMore
/-! ### the reference's -/
end Go.Proofs.Ytnoebjmhimehcaa.Pl
/- The reference's table of walks. -/
namespace Go.Proofs.Ytnoebjmhimehcaa.Pl
open Go.RowKit Go.Proofs.Ytnoebjmhimehcaa.P Go.Proofs.YtnoebjmhimehcaaW.PrintWords Go.Proofs.YtnoebjmhimehcaaW.PrintMore
/-! ### a table, read and written -/
def T (t : List (List Bool)) (a b : Nat) : Bool := (t.getD a []).getD b false
theorem T_set (t : List (List Bool)) (u v : Nat) (x : Bool) (hu : u < t.length) (hv : v < (t.getD u []).length) (a b : Nat) : T (t.set u ((t.getD u []).set v x)) a b = if a = u ∧ b = v then x else T t a b := by
 unfold T
 rw [getD_set _ _ _ _ _ hu]
 by_cases e : a = u
 · rw [if_pos e, getD_set _ _ _ _ _ hv]
   subst e
   by_cases e2 : b = v
   · rw [if_pos e2, if_pos ⟨rfl, e2⟩]
   · rw [if_neg e2, if_neg (fun h => e2 h.2)]
 · rw [if_neg e, if_neg (fun h => e h.1)]
theorem T_row (t : List (List Bool)) (u v : Nat) (x : Bool) (n : Nat) (hu : u < t.length) (h : ∀ a, a < n → (t.getD a []).length = n) (a : Nat) (ha : a < n) : ((t.set u ((t.getD u []).set v x)).getD a []).length = n := by
 rw [getD_set _ _ _ _ _ hu]
 by_cases e : a = u
 · rw [if_pos e, List.length_set]; subst e; exact h a ha
 · rw [if_neg e]; exact h a ha

section
variable {g : List (List Int)}
theorem Via.at {K u : Nat} (h : Via g (K + 1) u K) : Via g K u K := (Via.succ.1 h).elim id (fun h => h.1)
theorem Via.from {K v : Nat} (h : Via g (K + 1) K v) : Via g K K v := (Via.succ.1 h).elim id (fun h => h.2)

/-- In round K: rows below u are done, of row u the columns below v. -/
structure PT (g : List (List Int)) (K u v : Nat) (t : List (List Bool)) : Prop where
 len : t.length = g.length
 row : ∀ a, a < g.length → (t.getD a []).length = g.length
 low : ∀ a b, a < g.length → b < g.length → Via g K a b → T t a b = true
 up : ∀ a b, a < g.length → b < g.length → T t a b = true → Via g (K + 1) a b
 done : ∀ a b, a < g.length → b < g.length → (a < u ∨ (a = u ∧ b < v)) → Via g (K + 1) a b → T t a b = true

theorem PT.put {K u v : Nat} {t : List (List Bool)} (h : PT g K u v t) (hK : K < g.length) (hu : u < g.length) (hv : v < g.length) {x : Bool} (hx : x = (T t u v || (T t u K && T t K v))) :
   PT g K u (v + 1) (t.set u ((t.getD u []).set v x)) := by
 obtain ⟨len, row, low, up, done⟩ := h
 have hl := row u hu
 have hT := T_set t u v x (by omega) (by omega)
 have x1 : x = true → Via g (K + 1) u v := fun h => by
   rw [hx] at h
   rcases Bool.or_eq_true _ _ ▸ h with h | h
   · exact up u v hu hv h
   · rw [Bool.and_eq_true] at h
     exact Via.succ.2 (.inr ⟨(up u K hu hK h.1).at, (up K v hK hv h.2).from⟩)
 have x2 : Via g (K + 1) u v → x = true := fun h => by
   rw [hx]
   rcases Via.succ.1 h with h | ⟨h1, h2⟩
   · rw [low u v hu hv h]; rfl
   · rw [low u K hu hK h1, low K v hK hv h2]; simp
 refine ⟨by rw [List.length_set]; exact len, T_row t u v x g.length (by omega) row, fun a b ha hb h => ?_, fun a b ha hb h => ?_, fun a b ha hb hd h => ?_⟩
 · rw [hT]
   split
   · rename_i e; obtain ⟨rfl, rfl⟩ := e; exact x2 h.up
   · exact low a b ha hb h
 · rw [hT] at h
   split at h
   · rename_i e; obtain ⟨rfl, rfl⟩ := e; exact x1 h
   · exact up a b ha hb h
 · rw [hT]
   split
   · rename_i e; obtain ⟨rfl, rfl⟩ := e; exact x2 h
   · rename_i e
     refine done a b ha hb ?_ h
     rcases hd with hd | ⟨h1, h2⟩
     · exact .inl hd
     · exact .inr ⟨h1, by
         have : b ≠ v := fun e2 => e ⟨h1, e2⟩
         omega⟩



end
end Go.Proofs.Ytnoebjmhimehcaa.Pl
/- Reachability: the reference's lists. -/
namespace Go.Proofs.Ytnoebjmhimehcaa.Pl
open Go.RowKit Go.Proofs.Ytnoebjmhimehcaa.P Go.Proofs.YtnoebjmhimehcaaW.PrintWords Go.Proofs.YtnoebjmhimehcaaW.PrintMore
section
variable {g : List (List Int)}
end
end Go.Proofs.Ytnoebjmhimehcaa.Pl
/- The nodes on a path from one place to another, by both texts. -/
namespace Go.Proofs.Ytnoebjmhimehcaa.Pl
set_option linter.unusedVariables false
open Go.RowKit Go.Proofs.Ytnoebjmhimehcaa.P Go.Proofs.YtnoebjmhimehcaaW.PrintWords Go.Proofs.YtnoebjmhimehcaaW.PrintMore

theorem from_at {g : List (List Int)} {s v : Nat} : From g [(s : Int)] ([(s : Int)] : List Int).length v ↔ R g s v := by
 constructor
 · rintro ⟨j, u, hj, h1, h2⟩
   simp at hj
   subst hj
   have : u = s := by
     have e : rd [(s : Int)] ((0 : Nat) : Int) = (s : Int) := rfl
     rw [e] at h1; omega
   rw [← this]; exact h2
 · intro h
   exact ⟨0, s, by simp, rfl, h⟩
/-- On a path from s to t. -/
def onP (g : List (List Int)) (s t v : Nat) : Prop := R g s v ∧ R (rev g) t v
open Classical in
noncomputable def onB (g : List (List Int)) (s t v : Nat) : Bool := decide (onP g s t v)
theorem onB_iff {g : List (List Int)} {s t v : Nat} : onB g s t v = true ↔ onP g s t v := by unfold onB; exact @decide_eq_true_iff _ (Classical.propDecidable _)
theorem onB_and {g : List (List Int)} {s t v : Nat} {a b : Bool} (ha : a = true ↔ R g s v) (hb : b = true ↔ R (rev g) t v) : (a && b) = onB g s t v := by
 rw [Bool.eq_iff_iff, Bool.and_eq_true, ha, hb, onB_iff]; exact Iff.rfl
theorem onpath_ev {nm : ByteArray} {ps : List Pla} {ts : List Tra} (V : ValidN nm ps ts) (hT : Thin ts) (s t : Nat) :
   ∃ on, Ev (fun k => workflow_onPath.f k nm ps ts (s : Int) (t : Int)) on ∧ on.length = ps.length + ts.length ∧ ∀ v, v < ps.length + ts.length → on.getD v false = onB (flowS true ps ts) s t v := by
 have hv := validS_iff.2 V
 obtain ⟨h1, h2⟩ := flow_few V
 have hg : Few (flowS true ps ts) := ⟨h1, fun u hu => Nat.le_trans (h2 u hu) (by decide)⟩
 have hl := flow_len (v := true) (ps := ps) (ts := ts) rfl
 have hf := flow_ev nm (ps := ps) hT
 rw [hv] at hf
 obtain ⟨a, a1, a2, a3⟩ := reach_ev hg [(s : Int)] (by simp)
 obtain ⟨b, b1, b2, b3⟩ := reach_ev (rev_few hg) [(t : Int)] (by simp)
 rw [rev_len] at b2
 obtain ⟨on, ⟨o1, o2⟩, hk⟩ := Ev_for (l := fun k (out : List Bool) v => workflow_onPath.l0 k out b (b.length : Int) v) (n := b.length)
   (inv := fun i out => out.length = a.length ∧ ∀ v, v < a.length → out.getD v false = if v < i then (a.getD v false && b.getD v false) else a.getD v false)
   (fun i out hi ⟨hl', ho⟩ => by
     have ei := ho i (by omega)
     rw [if_neg (Nat.lt_irrefl _)] at ei
     have put : ∀ x : Bool, x = (a.getD i false && b.getD i false) → (out.set i x).length = a.length ∧ ∀ v, v < a.length → (out.set i x).getD v false = if v < i + 1 then (a.getD v false && b.getD v false) else a.getD v false := fun x hx =>
       ⟨by rw [List.length_set]; exact hl', fun v hv => by
         rw [getD_set _ _ _ _ _ (by omega)]
         by_cases e : v = i
         · subst e; rw [if_pos rfl, if_pos (Nat.lt_succ_self _)]; exact hx
         · rw [if_neg e, ho v hv]
           by_cases l : v < i
           · rw [if_pos l, if_pos (by omega)]
           · rw [if_neg l, if_neg (by omega)]⟩
     by_cases c : a.getD i false = true
     · refine ⟨out.set i (b.getD i false), put _ (by rw [c, Bool.true_and]), fun r h => Ev.step (fun k => ?_) h⟩
       simp only [workflow_onPath.l0]
       rw [if_pos (by omega), if_pos (by omega), if_pos (by omega), if_pos (by omega), rdOf_nat, rdOf_nat, if_pos (by rw [ei]; exact c), Int.toNat_natCast, wrap_up hi (by omega)]
     · refine ⟨out.set i false, put _ (by rw [Bool.eq_false_iff.2 c, Bool.false_and]), fun r h => Ev.step (fun k => ?_) h⟩
       simp only [workflow_onPath.l0]
       rw [if_pos (by omega), if_pos (by omega), if_pos (by omega), if_pos (by omega), rdOf_nat, if_neg (by rw [ei]; exact c), Int.toNat_natCast, wrap_up hi (by omega)])
   (Nat.zero_le _) (s := a) ⟨rfl, fun v hv => by rw [if_neg (by omega)]⟩
 refine ⟨on, ?_, by omega, fun v hv => ?_⟩
 · unfold workflow_onPath.f
   refine Ev.bind hf (Ev.bind a1 (Ev.bind (reverse_ev _ hg) (Ev.bind b1 ?_)))
   exact hk on (Ev.one fun k => by simp only [workflow_onPath.l0]; rw [if_neg (by omega)])
 · rw [o2 v (by omega), if_pos (by omega)]
   exact onB_and ((a3 v (by omega)).trans from_at) ((b3 v (by rw [rev_len]; omega)).trans from_at)
/-- The nodes that are not on a path. -/
noncomputable def offN (g : List (List Int)) (s t i : Nat) : List Nat := (List.range i).filter (fun v => !onB g s t v)
theorem offN_succ (g : List (List Int)) (s t i : Nat) : offN g s t (i + 1) = if onB g s t i = true then offN g s t i else offN g s t i ++ [i] := by
 unfold offN
 rw [filter_range_succ]
 by_cases h : onB g s t i = true
 · rw [h]; rfl
 · rw [Bool.eq_false_iff.2 h]; rfl
theorem offN_len (g : List (List Int)) (s t i : Nat) : (offN g s t i).length ≤ i := Nat.le_trans (List.length_filter_le _ _) (by rw [List.length_range]; exact Nat.le_refl _)
end Go.Proofs.Ytnoebjmhimehcaa.Pl
/- Whether a net is plain: the program's text. -/
namespace Go.Proofs.Ytnoebjmhimehcaa.Pl
set_option linter.unusedVariables false
open Go.RowKit Go.Proofs.Ytnoebjmhimehcaa.P Go.Proofs.YtnoebjmhimehcaaW.PrintWords Go.Proofs.YtnoebjmhimehcaaW.PrintMore

theorem plain_ev (nm : ByteArray) {ps : List Pla} {ts : List Tra} (hp : ps.length ≤ 1000000) (ht : ts.length ≤ 1000000) (hT : Thin ts) : Ev (fun k => net_Plain.f k nm ps ts) (plainS (validS nm ps ts) ps ts) := by
 have h1 := Ev_loop (L := fun k i => net_Plain.l1 k ps (ps.length : Int) (i : Int) nm ps ts) (n := ps.length) 1 (fun i => if (ps.getD i zP).f2 ≠ 0 then some false else none) (e := validS nm ps ts)
   (fun k i hi => by
     simp only [net_Plain.l1]
     rw [if_pos (by omega), if_pos (by omega), if_pos (by omega), rdP, wrap_up hi (by omega)]
     by_cases c : (ps.getD i zP).f2 = 0
     · rw [if_pos c, if_neg (by simpa using c)]; rfl
     · rw [if_neg c, if_pos c]; rfl)
   (Ev.step (f := fun k => (net_valid.f k nm ps ts).bind fun t => some t) (fun k => by simp only [net_Plain.l1]; rw [if_neg (by omega)]) (Ev.bind (valid_ev nm hT) (Ev.some _)))
 exact Ev_loop (L := fun k i => net_Plain.l0 k ts (ts.length : Int) (i : Int) nm ps ts) (n := ts.length) 1 (fun i => if ((ts.getD i zT).f3.length : Int) > 0 ∨ (ts.getD i zT).f4 ≠ 0 then some false else none) (e := plainP ps (validS nm ps ts))
   (fun k i hi => by
     simp only [net_Plain.l0]
     rw [if_pos (by omega), if_pos (by omega), if_pos (by omega), rdT, wrap_up hi (by omega)]
     by_cases c1 : ((ts.getD i zT).f3.length : Int) > 0
     · rw [if_pos c1, if_pos (Or.inl c1)]; rfl
     · rw [if_neg c1]
       by_cases c2 : (ts.getD i zT).f4 = 0
       · rw [if_pos c2, if_neg (fun h => h.elim c1 (fun h => h c2))]; rfl
       · rw [if_neg c2, if_pos (Or.inr c2)]; rfl)
   (Ev.step (f := fun k => net_Plain.l1 k ps (ps.length : Int) ((0 : Nat) : Int) nm ps ts) (fun k => by simp only [net_Plain.l0]; rw [if_neg (by omega)]; rfl) h1)
end Go.Proofs.Ytnoebjmhimehcaa.Pl
/- Whether a net is plain, ordinary: the reference's texts. -/
namespace Go.Proofs.Ytnoebjmhimehcaa.Pl
open Go.RowKit Go.Proofs.Ytnoebjmhimehcaa.P Go.Proofs.YtnoebjmhimehcaaW.PrintWords Go.Proofs.YtnoebjmhimehcaaW.PrintMore

end Go.Proofs.Ytnoebjmhimehcaa.Pl
/- The problems of a net, by both texts. -/
namespace Go.Proofs.Ytnoebjmhimehcaa.Pl
set_option linter.unusedVariables false
open Go.RowKit Go.Proofs.Ytnoebjmhimehcaa.P Go.Proofs.YtnoebjmhimehcaaW.PrintWords Go.Proofs.YtnoebjmhimehcaaW.PrintMore

abbrev Dg := S50
/-- What is told of a node that is not on a path. -/
def offD (K v : Nat) : Dg := if v < K then ⟨3, (v : Int)⟩ else ⟨4, (v : Int) - (K : Int)⟩
def oneD (s t : Int) : List Dg := if s = t then [⟨3, s⟩] else []
theorem oneD_len (s t : Int) : (oneD s t).length ≤ 1 := by unfold oneD; split <;> simp
/-- The problems of a net with a source and a sink. -/
noncomputable def pathD (ps : List Pla) (ts : List Tra) (s t : Int) : List Dg := oneD s t ++ (offN (flowS true ps ts) s.toNat t.toNat (ps.length + ts.length)).map (offD ps.length)
noncomputable def endD (ps : List Pla) (ts : List Tra) (s t : Int × Bool) : List Dg :=
 if s.2 = true then (if t.2 = true then pathD ps ts s.1 t.1 else [⟨2, 0⟩]) else (if t.2 = true then [⟨1, 0⟩] else [⟨1, 0⟩, ⟨2, 0⟩])
noncomputable def probS (nm : ByteArray) (ps : List Pla) (ts : List Tra) : List Dg × Int :=
 if (checkS nm ps ts).1 = 0 then (if plainS (validS nm ps ts) ps ts = true then (endD ps ts (onlyS (validS nm ps ts) ps.length (prodF ts)) (onlyS (validS nm ps ts) ps.length (consF ts)), 0) else ([], 12)) else ([], (checkS nm ps ts).1)
theorem onlyS_true {v : Bool} {K : Nat} {f : Nat → List Int} {x : Int} (h : onlyS v K f = (x, true)) : ∃ p : Nat, p < K ∧ x = (p : Int) ∧ endsN f K = [p] := by
 unfold onlyS at h
 cases v with
 | false => rw [if_neg Bool.false_ne_true] at h; cases h
 | true =>
   rw [if_pos rfl] at h
   match e : endsN f K with
   | [] => rw [e] at h; cases h
   | [p] =>
     rw [e] at h
     have hm : p ∈ endsN f K := by rw [e]; simp
     unfold endsN at hm
     rw [List.mem_filter, List.mem_range] at hm
     exact ⟨p, hm.1, (Prod.mk.inj h).1.symm, rfl⟩
   | p :: q :: r => rw [e] at h; cases h
section
variable {nm : ByteArray} {ps : List Pla} {ts : List Tra}
theorem probl_ev {on : List Bool} {G : List (List Int)} {s t K N : Nat} (hl : on.length = N) (ho : ∀ v, v < N → on.getD v false = onB G s t v) (hN : N ≤ 1000) (hK : K ≤ 1000) (d0 : List Dg) (hd : d0.length ≤ 1) :
   Ev (fun k => workflow_Problems.l0 k on (K : Int) 0 d0) (d0 ++ (offN G s t N).map (offD K), 0) := by
 refine Ev.congr (fun k => show workflow_Problems.l0 k on (K : Int) 0 d0 = workflow_Problems.l0 k on (K : Int) ((0 : Nat) : Int) (d0 ++ (offN G s t 0).map (offD K)) by simp [offN]) ?_
 refine Ev_up (L := fun k i => workflow_Problems.l0 k on (K : Int) (i : Int) (d0 ++ (offN G s t i).map (offD K))) (n := N) (fun i hi h => ?_) (Ev.one fun k => by simp only [workflow_Problems.l0]; rw [if_neg (by omega)])
 have hlen : (d0 ++ (offN G s t i).map (offD K)).length < 1000000 := by rw [List.length_append, List.length_map]; have := offN_len G s t i; omega
 rw [offN_succ] at h
 by_cases c : onB G s t i = true
 · rw [if_pos c] at h
   refine Ev.step (fun k => ?_) h
   simp only [workflow_Problems.l0]
   rw [if_pos (by omega), if_pos (by omega), rdOf_nat, if_pos (by rw [ho i hi]; exact c), wrap_up hi (by omega)]
 · rw [if_neg c, List.map_append, ← List.append_assoc] at h
   refine Ev.step (fun k => ?_) h
   simp only [workflow_Problems.l0]
   rw [if_pos (by omega), if_pos (by omega), rdOf_nat, if_neg (by rw [ho i hi]; exact c), if_pos hlen, wrap_up hi (by omega)]
   congr 2
   unfold offD
   by_cases e : i < K
   · rw [if_pos (by omega)]; simp only [List.map_cons, List.map_nil]; rw [if_pos e]
   · rw [if_neg (by omega)]; simp only [List.map_cons, List.map_nil]; rw [if_neg e, wrap_ok (by omega) (by omega)]
theorem problems_ev (hp : ps.length ≤ 1000000) (ht : ts.length ≤ 1000000) (hT : Thin ts) : Ev (fun k => workflow_Problems.f k nm ps ts) (probS nm ps ts) := by
 unfold workflow_Problems.f probS
 refine Ev.bind (check_ev nm hT) ?_
 by_cases c : (checkS nm ps ts).1 = 0
 · rw [if_pos c]
   refine Ev.congr (fun k => if_pos c) ?_
   refine Ev.bind (plain_ev nm hp ht hT) ?_
   by_cases d : plainS (validS nm ps ts) ps ts = true
   · rw [if_pos d]
     refine Ev.congr (fun k => if_pos d) ?_
     refine Ev.bind (onlyProducers_ev ht hp hT) (Ev.bind (onlyConsumers_ev ht hp hT) ?_)
     have hv : validS nm ps ts = true := by unfold validS; rw [c]; rfl
     have V := validS_iff.1 hv
     have vp := V.p
     have vt := V.t
     unfold endD
     match es : onlyS (validS nm ps ts) ps.length (prodF ts), et : onlyS (validS nm ps ts) ps.length (consF ts) with
     | (s, true), (t, true) =>
       obtain ⟨a, a1, a2, _⟩ := onlyS_true es
       obtain ⟨b, b1, b2, _⟩ := onlyS_true et
       subst a2 b2
       simp only [↓reduceIte]
       obtain ⟨on, o1, o2, o3⟩ := onpath_ev V hT a b
       refine Ev.bind o1 ?_
       unfold pathD
       rw [Int.toNat_natCast, Int.toNat_natCast]
       exact probl_ev o2 o3 (by omega) (by omega) (oneD a b) (oneD_len _ _)
     | (s, true), (t, false) => exact Ev.some _
     | (s, false), (t, true) => exact Ev.some _
     | (s, false), (t, false) => exact Ev.some _
   · rw [if_neg d]
     exact Ev.congr (fun k => if_neg d) (Ev.some _)
 · rw [if_neg c]
   exact Ev.congr (fun k => if_neg c) (Ev.some _)
end
end Go.Proofs.Ytnoebjmhimehcaa.Pl
/- Whether a net is a workflow net, by both texts. -/
namespace Go.Proofs.Ytnoebjmhimehcaa.Pl
set_option linter.unusedVariables false
open Go.RowKit Go.Proofs.Ytnoebjmhimehcaa.P Go.Proofs.YtnoebjmhimehcaaW.PrintWords Go.Proofs.YtnoebjmhimehcaaW.PrintMore
noncomputable def isS (nm : ByteArray) (ps : List Pla) (ts : List Tra) : Bool := if (probS nm ps ts).2 = 0 then (((probS nm ps ts).1.length : Int) == 0) else false
theorem is_ev {nm : ByteArray} {ps : List Pla} {ts : List Tra} (hp : ps.length ≤ 1000000) (ht : ts.length ≤ 1000000) (hT : Thin ts) : Ev (fun k => workflow_Is.f k nm ps ts) (isS nm ps ts) := by
 unfold workflow_Is.f isS
 refine Ev.bind (problems_ev hp ht hT) ?_
 by_cases c : (probS nm ps ts).2 = 0
 · rw [if_pos c, if_pos c]; exact Ev.some _
 · rw [if_neg c, if_neg c]; exact Ev.some _
end Go.Proofs.Ytnoebjmhimehcaa.Pl
/- Prepared nets, by both texts. -/
namespace Go.Proofs.Ytnoebjmhimehcaa.Pl
set_option linter.unusedVariables false
open Go.RowKit Go.Proofs.Ytnoebjmhimehcaa.P Go.Proofs.YtnoebjmhimehcaaW.PrintWords Go.Proofs.YtnoebjmhimehcaaW.PrintMore

/-- A place of the prepared net. -/
def prP (s : Int) (ps : List Pla) (i : Nat) : Pla := ⟨(ps.getD i zP).f0, if (i : Int) = s then 1 else 0, 0⟩
def prT (t : Tra) : Tra := ⟨t.f0, t.f1, t.f2, [], 0⟩
def prepP (s : Int) (ps : List Pla) : List Pla := mr ps.length (prP s ps)
def prepT (ts : List Tra) : List Tra := ts.map prT
noncomputable def prepS (nm : ByteArray) (ps : List Pla) (ts : List Tra) : ByteArray × List Pla × List Tra × Int :=
 if (probS nm ps ts).2 = 0 then (if (probS nm ps ts).1.length = 0 then (nm, prepP (onlyS (validS nm ps ts) ps.length (prodF ts)).1 ps, prepT ts, 0) else (⟨#[]⟩, [], [], 15)) else (⟨#[]⟩, [], [], (probS nm ps ts).2)
section
variable {nm : ByteArray} {ps : List Pla} {ts : List Tra}
theorem prob_zero (h : (probS nm ps ts).2 = 0) : validS nm ps ts = true ∧ plainS (validS nm ps ts) ps ts = true ∧ (probS nm ps ts).1 = endD ps ts (onlyS (validS nm ps ts) ps.length (prodF ts)) (onlyS (validS nm ps ts) ps.length (consF ts)) := by
 unfold probS at h ⊢
 by_cases c : (checkS nm ps ts).1 = 0
 · have v : validS nm ps ts = true := by unfold validS; rw [c]; rfl
   rw [if_pos c] at h ⊢
   by_cases d : plainS (validS nm ps ts) ps ts = true
   · rw [if_pos d]; exact ⟨v, d, rfl⟩
   · rw [if_neg d] at h; cases h
 · rw [if_neg c] at h; exact absurd h c
theorem plain_at (h : plainS (validS nm ps ts) ps ts = true) : (∀ i, i < ps.length → (ps.getD i zP).f2 = 0) ∧ ∀ i, i < ts.length → (ts.getD i zT).f3 = [] ∧ (ts.getD i zT).f4 = 0 := by
 unfold plainS at h
 rw [plainT_eq] at h
 by_cases c : ∃ i, i < ts.length ∧ (((ts.getD i zT).f3.length : Int) > 0 ∨ (ts.getD i zT).f4 ≠ 0)
 · rw [if_pos c] at h; cases h
 · rw [if_neg c, plainP_eq] at h
   by_cases d : ∃ i, i < ps.length ∧ (ps.getD i zP).f2 ≠ 0
   · rw [if_pos d] at h; cases h
   · refine ⟨fun i hi => Classical.byContradiction fun e => d ⟨i, hi, e⟩, fun i hi => ⟨?_, ?_⟩⟩
     · refine List.eq_nil_of_length_eq_zero (Classical.byContradiction fun e => c ⟨i, hi, Or.inl (by omega)⟩)
     · exact Classical.byContradiction fun e => c ⟨i, hi, Or.inr e⟩
theorem prepP_len (s : Int) : (prepP s ps).length = ps.length := mr_len _ _
theorem prepT_len : (prepT ts).length = ts.length := List.length_map _
theorem prep_map (i : Nat) (hi : i < ts.length) : (ts.take (i + 1)).map prT = (ts.take i).map prT ++ [prT (ts.getD i zT)] := take_map_succ ts prT zT hi
theorem prepare_ev (hp : ps.length ≤ 100000) (ht : ts.length ≤ 100000) (hT : Thin ts) : Ev (fun k => workflow_Prepare.f k nm ps ts) (prepS nm ps ts) := by
 unfold workflow_Prepare.f prepS
 refine Ev.bind (problems_ev (by omega) (by omega) hT) ?_
 by_cases c : (probS nm ps ts).2 = 0
 · rw [if_pos c]
   refine Ev.congr (fun k => if_pos c) ?_
   by_cases d : (probS nm ps ts).1.length = 0
   · rw [if_pos d]
     refine Ev.congr (fun k => if_neg (by omega)) ?_
     refine Ev.bind (onlyProducers_ev (by omega) (by omega) hT) ?_
     obtain ⟨hv, hpl, _⟩ := prob_zero c
     obtain ⟨q1, q2⟩ := plain_at hpl
     obtain ⟨s, es⟩ : ∃ s, s = (onlyS (validS nm ps ts) ps.length (prodF ts)).1 := ⟨_, rfl⟩
     rw [← es]
     have second : Ev (fun k => workflow_Prepare.l1 k ts (ts.length : Int) 0 nm (prepP s ps) []) (nm, prepP s ps, prepT ts, 0) := by
       refine Ev.congr (fun k => show workflow_Prepare.l1 k ts (ts.length : Int) 0 nm (prepP s ps) [] = workflow_Prepare.l1 k ts (ts.length : Int) ((0 : Nat) : Int) nm (prepP s ps) ((ts.take 0).map prT) by simp) ?_
       refine Ev_up (L := fun k i => workflow_Prepare.l1 k ts (ts.length : Int) (i : Int) nm (prepP s ps) ((ts.take i).map prT)) (n := ts.length) (fun i hi h => ?_) (Ev.one fun k => by simp only [workflow_Prepare.l1]; rw [if_neg (by omega), List.take_length]; rfl)
       have hth := hT.at hi
       have hlen : ((ts.take i).map prT).length < 1000000 := by rw [List.length_map, List.length_take]; omega
       rw [prep_map i hi] at h
       refine Ev.step (fun k => ?_) h
       simp only [workflow_Prepare.l1, workflow_arcs.f]
       rw [if_pos (by omega), if_pos (by omega), if_pos (by omega), rdT, if_pos hth.2.1]
       simp only [Option.bind_some]
       rw [if_pos hth.2.2.1]
       simp only [Option.bind_some]
       rw [if_pos (by omega), wrap_up hi (by omega), (q2 i hi).2]
       rfl
     refine Ev.congr (fun k => show workflow_Prepare.l0 k s ps (ps.length : Int) 0 nm ps ts nm [] = workflow_Prepare.l0 k s ps (ps.length : Int) ((0 : Nat) : Int) nm ps ts nm (mr 0 (prP s ps)) by simp; rfl) ?_
     refine Ev_up (L := fun k i => workflow_Prepare.l0 k s ps (ps.length : Int) (i : Int) nm ps ts nm (mr i (prP s ps))) (n := ps.length) (fun i hi h => ?_) (Ev.step (fun k => by simp only [workflow_Prepare.l0]; rw [if_neg (by omega)]; rfl) second)
     have hlen : (mr i (prP s ps)).length < 1000000 := by rw [mr_len]; omega
     rw [mr_snoc] at h
     refine Ev.step (fun k => ?_) h
     simp only [workflow_Prepare.l0]
     rw [if_pos (by omega), if_pos (by omega), if_pos (by omega), rdP, q1 i hi]
     by_cases e : (i : Int) = s
     · have o : prP s ps i = ⟨(ps.getD i zP).f0, 1, 0⟩ := by unfold prP; rw [if_pos e]
       rw [if_pos e, if_pos (by omega), wrap_up hi (by omega), o]
     · have o : prP s ps i = ⟨(ps.getD i zP).f0, 0, 0⟩ := by unfold prP; rw [if_neg e]
       rw [if_neg e, if_pos (by omega), wrap_up hi (by omega), o]
   · rw [if_neg d]
     exact Ev.congr (fun k => if_pos (by omega)) (Ev.some _)
 · rw [if_neg c]
   exact Ev.congr (fun k => if_neg c) (Ev.some _)
theorem isS_eq : isS nm ps ts = decide ((probS nm ps ts).2 = 0 ∧ (probS nm ps ts).1.length = 0) := by
 unfold isS
 by_cases c : (probS nm ps ts).2 = 0
 · rw [if_pos c]
   by_cases d : (probS nm ps ts).1.length = 0
   · rw [decide_eq_true ⟨c, d⟩, d]; rfl
   · rw [decide_eq_false (fun h => d h.2), beq_eq_false_iff_ne]; omega
 · rw [if_neg c, decide_eq_false (fun h => c h.1)]
noncomputable def mayS (nm : ByteArray) (ps : List Pla) (ts : List Tra) : Int := if (probS nm ps ts).2 = 0 then (if (probS nm ps ts).1.length = 0 then 0 else 15) else (probS nm ps ts).2
theorem may_prep : (prepS nm ps ts).2.2.2 = mayS nm ps ts := by
 unfold prepS mayS
 split
 · split <;> rfl
 · rfl
theorem prepS_zero (h : mayS nm ps ts = 0) : prepS nm ps ts = (nm, prepP (onlyS (validS nm ps ts) ps.length (prodF ts)).1 ps, prepT ts, 0) ∧ (probS nm ps ts).2 = 0 ∧ (probS nm ps ts).1.length = 0 := by
 unfold mayS at h
 unfold prepS
 by_cases c : (probS nm ps ts).2 = 0
 · rw [if_pos c] at h ⊢
   by_cases d : (probS nm ps ts).1.length = 0
   · rw [if_pos d]; exact ⟨rfl, c, d⟩
   · rw [if_neg d] at h; cases h
 · rw [if_neg c] at h; exact absurd h c
end
end Go.Proofs.Ytnoebjmhimehcaa.Pl
/- What the program's functions over nets answer: places and transitions by name. -/
namespace Go.Proofs.Ytnoebjmhimehcaa.Pl
set_option linter.unusedVariables false
open Go.RowKit Go.Proofs.Ytnoebjmhimehcaa.P Go.Proofs.YtnoebjmhimehcaaW.PrintWords Go.Proofs.YtnoebjmhimehcaaW.PrintMore

theorem place_ev (nm : ByteArray) {ps : List Pla} {ts : List Tra} (s : ByteArray) (hp : ps.length ≤ 1000000) (hT : Thin ts) : Ev (fun k => net_Place.f k nm ps ts s) (placeS (validS nm ps ts) ps s) := by
 unfold net_Place.f placeS
 refine Ev.bind (valid_ev nm hT) ?_
 by_cases hv : validS nm ps ts = true
 · simp only [hv, ↓reduceIte]
   exact Ev_loop (L := fun k i => net_Place.l0 k s ps (ps.length : Int) (i : Int)) 1 _ (fun k i hi => by
     simp only [net_Place.l0]
     rw [if_pos (by omega), if_pos (by omega), if_pos (by omega), rdP, wrap_up hi (by omega)]
     by_cases c : (ps.getD i zP).f0.toList = s.toList
     · rw [if_pos c, if_pos c]; rfl
     · rw [if_neg c, if_neg c]; rfl) (Ev.one (fun k => by simp only [net_Place.l0]; rw [if_neg (by omega)]))
 · simp only [hv]; exact Ev.some _
theorem trans_ev (nm : ByteArray) {ps : List Pla} {ts : List Tra} (s : ByteArray) (ht : ts.length ≤ 1000000) (hT : Thin ts) : Ev (fun k => net_Trans.f k nm ps ts s) (transS (validS nm ps ts) ts s) := by
 unfold net_Trans.f transS
 refine Ev.bind (valid_ev nm hT) ?_
 by_cases hv : validS nm ps ts = true
 · simp only [hv, ↓reduceIte]
   exact Ev_loop (L := fun k i => net_Trans.l0 k s ts (ts.length : Int) (i : Int)) 1 _ (fun k i hi => by
     simp only [net_Trans.l0]
     rw [if_pos (by omega), if_pos (by omega), if_pos (by omega), rdT, wrap_up hi (by omega)]
     by_cases c : (ts.getD i zT).f0.toList = s.toList
     · rw [if_pos c, if_pos c]; rfl
     · rw [if_neg c, if_neg c]; rfl) (Ev.one (fun k => by simp only [net_Trans.l0]; rw [if_neg (by omega)]))
 · simp only [hv]; exact Ev.some _
end Go.Proofs.Ytnoebjmhimehcaa.Pl
/- What the reference's functions over nets answer: names and weights. -/
namespace Go.Proofs.Ytnoebjmhimehcaa.Pl
set_option linter.unusedVariables false
open Go.RowKit Go.Proofs.Ytnoebjmhimehcaa.P Go.Proofs.YtnoebjmhimehcaaW.PrintWords Go.Proofs.YtnoebjmhimehcaaW.PrintMore

end Go.Proofs.Ytnoebjmhimehcaa.Pl
/- Final markings and closed nets, by both texts. -/
namespace Go.Proofs.Ytnoebjmhimehcaa.Pl
set_option linter.unusedVariables false
open Go.RowKit Go.Proofs.Ytnoebjmhimehcaa.P Go.Proofs.YtnoebjmhimehcaaW.PrintWords Go.Proofs.YtnoebjmhimehcaaW.PrintMore

def finF (t : Int) (i : Nat) : Int := if (i : Int) = t then 1 else 0
noncomputable def finS (nm : ByteArray) (ps : List Pla) (ts : List Tra) : List Int × Int :=
 if mayS nm ps ts = 0 then (mr ps.length (finF (onlyS (validS nm ps ts) ps.length (consF ts)).1), 0) else ([], mayS nm ps ts)
abbrev closeN : ByteArray := ⟨#[95, 99, 108, 111, 115, 101]⟩
def closeT (s t : Int) : Tra := ⟨closeN, [⟨t, 1⟩], [⟨s, 1⟩], [], 0⟩
noncomputable def closeS (nm : ByteArray) (ps : List Pla) (ts : List Tra) : ByteArray × List Pla × List Tra × Int :=
 if mayS nm ps ts = 0 then
   (if ts.length ≥ 24 then (⟨#[]⟩, [], [], 2) else
    if transS true ts closeN ≥ 0 ∨ placeS true ps closeN ≥ 0 then (⟨#[]⟩, [], [], 6) else
    (nm, prepP (onlyS true ps.length (prodF ts)).1 ps, prepT ts ++ [closeT (onlyS true ps.length (prodF ts)).1 (onlyS true ps.length (consF ts)).1], 0))
 else (⟨#[]⟩, [], [], mayS nm ps ts)
section
variable {nm : ByteArray} {ps : List Pla} {ts : List Tra}
/-- A net without problems has a source and a sink, and they differ. -/
theorem may_ends (h : mayS nm ps ts = 0) : validS nm ps ts = true ∧ plainS (validS nm ps ts) ps ts = true ∧ ∃ a b : Nat, a < ps.length ∧ b < ps.length ∧ a ≠ b ∧ onlyS true ps.length (prodF ts) = ((a : Int), true) ∧ onlyS true ps.length (consF ts) = ((b : Int), true) ∧ offN (flowS true ps ts) a b (ps.length + ts.length) = [] := by
 obtain ⟨_, c, hl⟩ := prepS_zero h
 obtain ⟨v, p, e⟩ := prob_zero c
 rw [e] at hl
 rw [v] at hl
 refine ⟨v, p, ?_⟩
 unfold endD at hl
 match es : onlyS true ps.length (prodF ts), et : onlyS true ps.length (consF ts) with
 | (s, true), (t, true) =>
   rw [es, et] at hl
   obtain ⟨a, a1, a2, _⟩ := onlyS_true es
   obtain ⟨b, b1, b2, _⟩ := onlyS_true et
   subst a2 b2
   simp only [↓reduceIte] at hl
   unfold pathD oneD at hl
   rw [List.length_append, List.length_map, Int.toNat_natCast, Int.toNat_natCast] at hl
   refine ⟨a, b, a1, b1, fun hab => ?_, rfl, rfl, List.eq_nil_of_length_eq_zero (by omega)⟩
   rw [if_pos (by omega)] at hl
   simp at hl
 | (s, true), (t, false) => rw [es, et] at hl; simp at hl
 | (s, false), (t, true) => rw [es, et] at hl; simp at hl
 | (s, false), (t, false) => rw [es, et] at hl; simp at hl
theorem final_ev (hp : ps.length ≤ 100000) (ht : ts.length ≤ 100000) (hT : Thin ts) : Ev (fun k => workflow_Final.f k nm ps ts) (finS nm ps ts) := by
 unfold workflow_Final.f finS
 refine Ev.bind (prepare_ev hp ht hT) ?_
 rw [may_prep]
 by_cases c : mayS nm ps ts = 0
 · rw [if_pos c]
   refine Ev.congr (fun k => if_pos c) ?_
   obtain ⟨v, _, a, b, ha, hb, hab, e1, e2, _⟩ := may_ends c
   refine Ev.bind (onlyConsumers_ev (by omega) (by omega) hT) ?_
   rw [v, e2]
   refine Ev.congr (fun k => ?_) (Ev.some _)
   rw [if_pos (by omega), if_pos (by omega)]
   simp only [Option.bind_some]
   rw [if_pos (by omega), if_pos (by rw [List.length_replicate]; omega), Int.toNat_natCast, Int.toNat_natCast, mr_rep, mr_set]
   congr 2
   refine mr_congr fun i hi => ?_
   unfold finF
   by_cases q : i = b
   · rw [if_pos q, if_pos (by omega)]
   · rw [if_neg q, if_neg (by omega)]
 · rw [if_neg c]
   exact Ev.congr (fun k => if_neg c) (Ev.some _)
theorem prepP_at (s : Int) {i : Nat} (hi : i < ps.length) : (prepP s ps).getD i zP = prP s ps i := mr_get _ _ hi
theorem map_at {α : Type} (l : List α) (f : α → ByteArray) (z : α) {i : Nat} (hi : i < l.length) : (l.map f).getD i ByteArray.empty = f (l.getD i z) := by
 rw [List.getD_eq_getElem?_getD, List.getElem?_map, List.getD_eq_getElem?_getD, List.getElem?_eq_getElem hi]; rfl
theorem prepP_names (s : Int) : (prepP s ps).map (·.f0) = ps.map (·.f0) := by
 refine ext_getD ByteArray.empty (by rw [List.length_map, List.length_map, prepP_len]) fun i hi => ?_
 rw [List.length_map, prepP_len] at hi
 rw [map_at _ _ zP (by rw [prepP_len]; exact hi), map_at _ _ zP hi, prepP_at s hi]; rfl
theorem prepT_at {i : Nat} (hi : i < ts.length) : (prepT ts).getD i zT = prT (ts.getD i zT) := by
 unfold prepT
 rw [List.getD_eq_getElem?_getD, List.getElem?_map, List.getD_eq_getElem?_getD, List.getElem?_eq_getElem hi]; rfl
theorem prepT_names : (prepT ts).map (·.f0) = ts.map (·.f0) := by unfold prepT; rw [List.map_map]; rfl
/-- The prepared net of a valid net is valid. -/
theorem prep_valid (V : ValidN nm ps ts) (s : Int) : ValidN nm (prepP s ps) (prepT ts) := by
 refine ⟨V.n, by rw [prepP_len]; exact V.p0, by rw [prepP_len]; exact V.p, by rw [prepT_len]; exact V.t, fun i hi => ?_, fun i hi => ?_⟩
 · rw [prepP_len] at hi
   have h := (V.plName hi).1
   have e : plR (prepP s ps) i = 0 := by
     unfold plR
     rw [prepP_at s hi, List.map_take, prepP_names, ← List.map_take]
     show (if nmE ((ps.take i).map (·.f0)) (ps.getD i zP).f0 ≠ 0 then _ else _) = 0
     rw [if_neg (by simpa using h)]
     have z0 : placeE 0 0 = 0 := by decide
     have z1 : placeE 1 0 = 0 := by decide
     show placeE (if (i : Int) = s then 1 else 0) 0 = 0
     by_cases q : (i : Int) = s
     · rw [if_pos q]; exact z1
     · rw [if_neg q]; exact z0
   exact e
 · rw [prepT_len] at hi
   obtain ⟨h, _⟩ := V.trName hi
   obtain ⟨_, h1, h2, _⟩ := V.arcs hi
   unfold trR
   rw [prepT_at hi, List.map_take, prepT_names, ← List.map_take, prepP_names, prepP_len]
   show (if nmE (ps.map (·.f0) ++ (ts.take i).map (·.f0)) (ts.getD i zT).f0 ≠ 0 then _ else transE (ps.length : Int) (prT (ts.getD i zT))) = 0
   rw [if_neg (by simpa using h)]
   unfold transE prT
   rw [if_neg (show ¬ ((0 : Int) < 0 ∨ (0 : Int) > 9) by omega)]
   show (if arcsE (ps.length : Int) (ts.getD i zT).f1 ≠ 0 then _ else if arcsE (ps.length : Int) (ts.getD i zT).f2 ≠ 0 then _ else arcsE (ps.length : Int) []) = 0
   rw [if_neg (by simpa using h1), if_neg (by simpa using h2)]
   rfl
theorem prep_thin (hT : Thin ts) : Thin (prepT ts) := fun t ht => by
 obtain ⟨u, hu, rfl⟩ := List.mem_map.1 ht
 have h := hT u hu
 exact ⟨h.1, h.2.1, h.2.2.1, Nat.zero_le _⟩
theorem prep_trans (v : Bool) (n : ByteArray) : transS v (prepT ts) n = transS v ts n := by
 unfold transS
 rw [prepT_len]
 congr 1
 exact first_congr fun j hj => by rw [prepT_at hj]; rfl
theorem prep_place (v : Bool) (s : Int) (n : ByteArray) : placeS v (prepP s ps) n = placeS v ps n := by
 unfold placeS
 rw [prepP_len]
 congr 1
 exact first_congr fun j hj => by rw [prepP_at s hj]; rfl
theorem close_ev (hp : ps.length ≤ 100000) (ht : ts.length ≤ 100000) (hT : Thin ts) : Ev (fun k => workflow_Close.f k nm ps ts) (closeS nm ps ts) := by
 unfold workflow_Close.f closeS
 refine Ev.bind (prepare_ev hp ht hT) ?_
 rw [may_prep]
 by_cases c : mayS nm ps ts = 0
 · rw [if_pos c]
   refine Ev.congr (fun k => if_pos c) ?_
   obtain ⟨v, _, a, b, ha, hb, hab, e1, e2, _⟩ := may_ends c
   rw [(prepS_zero c).1, v, e1]
   simp only
   by_cases d : ts.length ≥ 24
   · rw [if_pos d]
     exact Ev.congr (fun k => if_pos (by rw [prepT_len]; omega)) (Ev.some _)
   · rw [if_neg d]
     refine Ev.congr (fun k => if_neg (by rw [prepT_len]; omega)) ?_
     have V := prep_valid (validS_iff.1 v) (a : Int)
     have hv := validS_iff.2 V
     refine Ev.bind (trans_ev nm closeN (by rw [prepT_len]; omega) (prep_thin hT)) ?_
     rw [hv, prep_trans]
     have yes : Ev (fun k => workflow_Close.j0 k true nm ps ts nm (prepP (a : Int) ps) (prepT ts)) (⟨#[]⟩, [], [], 6) := Ev.one fun k => by simp only [workflow_Close.j0]; rfl
     by_cases q : transS true ts closeN ≥ 0
     · rw [if_pos (Or.inl q)]
       exact Ev.congr (fun k => if_pos q) yes
     · refine Ev.congr (fun k => if_neg q) ?_
       refine Ev.bind (place_ev nm closeN (by rw [prepP_len]; omega) (prep_thin hT)) ?_
       rw [hv, prep_place]
       by_cases q2 : placeS true ps closeN ≥ 0
       · rw [if_pos (Or.inr q2), decide_eq_true q2]
         exact yes
       · rw [if_neg (fun h => h.elim q q2), decide_eq_false q2, e2]
         have last : Ev (fun k => (workflow_Source.f k nm ps ts).bind fun bt281 => ((workflow_Sink.f k nm ps ts).bind fun bt283 => (if (prepT ts).length < 1466015503701 then (some (nm, prepP (a : Int) ps, (prepT ts ++ [(⟨closeN, [(⟨bt283.1, 1⟩ : Ac)], [(⟨bt281.1, 1⟩ : Ac)], [], 0⟩ : Tra)]), (0 : Int))) else none))) (nm, prepP (a : Int) ps, prepT ts ++ [closeT (a : Int) (b : Int)], 0) := by
           refine Ev.bind (onlyProducers_ev (by omega) (by omega) hT) (Ev.bind (onlyConsumers_ev (by omega) (by omega) hT) ?_)
           rw [v, e1, e2]
           exact Ev.congr (fun k => if_pos (by rw [prepT_len]; omega)) (Ev.some _)
         exact Ev.step (fun k => by simp only [workflow_Close.j0]; rfl) last
 · rw [if_neg c]
   exact Ev.congr (fun k => if_neg c) (Ev.some _)
end
end Go.Proofs.Ytnoebjmhimehcaa.Pl
/- Strongly connected components: the depth-first search with a stack, and its result: of each vertex the least one in its component. -/
namespace Go.Proofs.Ytnoebjmhimehcaa.Pl
open Go.RowKit Go.Proofs.Ytnoebjmhimehcaa.P Go.Proofs.YtnoebjmhimehcaaW.PrintWords Go.Proofs.YtnoebjmhimehcaaW.PrintMore

def up (l : List Nat) : List Int := l.map (fun x : Nat => (x : Int))
theorem up_app (a b : List Nat) : up (a ++ b) = up a ++ up b := by unfold up; exact List.map_append
theorem up_len (a : List Nat) : (up a).length = a.length := by unfold up; simp
theorem up_rd (a : List Nat) (i : Nat) (hi : i < a.length) : rd (up a) (i : Int) = ((a[i] : Nat) : Int) := by
 rw [rd_nat, List.getD_eq_getElem?_getD, List.getElem?_eq_getElem (by rw [up_len]; exact hi)]
 unfold up
 simp
theorem count_set {α : Type} (p : α → Bool) : ∀ (l : List α) (i : Nat) (x d : α), i < l.length → (l.set i x).countP p + (if p (l.getD i d) then 1 else 0) = l.countP p + (if p x then 1 else 0)
 | [], i, x, d, h => absurd h (by simp)
 | a :: l, 0, x, d, h => by simp [List.countP_cons]; omega
 | a :: l, i + 1, x, d, h => by
   have := count_set p l i x d (by simpa using h)
   simp only [List.set_cons_succ, List.countP_cons, List.getD_cons_succ]
   omega
/-- The least vertex of u's component. -/
def IsL (g : List (List Int)) (u : Nat) (x : Int) : Prop := ∃ m : Nat, x = (m : Int) ∧ R g u m ∧ R g m u ∧ ∀ w, R g u w → R g w u → m ≤ w
theorem IsL.uniq {g : List (List Int)} {u : Nat} {x y : Int} (h : IsL g u x) (k : IsL g u y) : x = y := by
 obtain ⟨a, rfl, h1, h2, h3⟩ := h
 obtain ⟨b, rfl, k1, k2, k3⟩ := k
 have := h3 b k1 k2
 have := k3 a h1 h2
 omega

section
variable {g : List (List Int)} {s s' : TS} {st gray : List Nat} {u v w x y : Nat}
def ix (s : TS) (v : Nat) : Int := rd s.index (v : Int)
def lw (s : TS) (v : Nat) : Int := rd s.low (v : Int)
def ou (s : TS) (v : Nat) : Int := rd s.out (v : Int)
def Bl (s : TS) (v : Nat) : Prop := ix s v ≠ 0 ∧ ou s v ≠ -1
def z0 (x : Int) : Bool := decide (x = 0)

structure TI (g : List (List Int)) (s : TS) (st gray : List Nat) : Prop where
 li : s.index.length = g.length
 ll : s.low.length = g.length
 lo : s.out.length = g.length
 stk : s.stack = up st
 stn : ∀ v, v ∈ st → v < g.length
 srt : st.Pairwise (fun a b => ix s a < ix s b)
 on : ∀ v, v < g.length → (v ∈ st ↔ ix s v ≠ 0 ∧ ou s v = -1)
 nx : s.next + (s.index.countP z0 : Int) = (g.length : Int)
 n0 : 0 ≤ s.next
 pos : ∀ v, v < g.length → 0 ≤ ix s v ∧ ix s v ≤ s.next
 gr : ∀ x, x ∈ gray → x ∈ st
 nw : ∀ u w, Ed g u w → ix s u ≠ 0 → u ∉ gray → ix s w ≠ 0
 bb : ∀ u w, Ed g u w → Bl s u → Bl s w
 lst : ∀ u, u < g.length → Bl s u → IsL g u (ou s u)
 down : ∀ x, x ∈ gray → ∀ y, y ∈ st → ix s x ≤ ix s y → R g x y
 back : ∀ y, y ∈ st → ∃ x, x ∈ gray ∧ ix s x ≤ ix s y ∧ R g y x

structure Fr (g : List (List Int)) (s s' : TS) : Prop where
 nx : s.next ≤ s'.next
 ix : ∀ w, w < g.length → ix s w ≠ 0 → ix s' w = ix s w
 lw : ∀ w, w < g.length → Pl.ix s w ≠ 0 → lw s' w = lw s w
 ou : ∀ w, w < g.length → Pl.ix s w ≠ 0 → ou s' w = ou s w
theorem Fr.trans {s1 : TS} (h : Fr g s s1) (k : Fr g s1 s') : Fr g s s' := ⟨Int.le_trans h.nx k.nx, fun w hw h0 => by rw [k.ix w hw (by rw [h.ix w hw h0]; exact h0), h.ix w hw h0], fun w hw h0 => by rw [k.lw w hw (by rw [h.ix w hw h0]; exact h0), h.lw w hw h0], fun w hw h0 => by rw [k.ou w hw (by rw [h.ix w hw h0]; exact h0), h.ou w hw h0]⟩

/-- What a search leaves behind. -/
structure Post (g : List (List Int)) (s : TS) (st gray : List Nat) (v : Nat) (s' : TS) (ext : List Nat) : Prop where
 inv : TI g s' (st ++ ext) gray
 fr : Fr g s s'
 seen : ix s' v ≠ 0
 how : (ext = [] ∧ Bl s' v ∧ s.next < lw s' v) ∨ (v ∈ ext ∧ 1 ≤ lw s' v ∧ (∃ y, y ∈ st ++ ext ∧ ix s' y = lw s' v ∧ R g v y) ∧ ∀ b, b ∈ ext → ∀ y, y ∈ st → Ed g b y → lw s' v ≤ ix s y)

/-- In the loop of v's search, at place i of its list. -/
structure LI (g : List (List Int)) (s0 : TS) (st gray : List Nat) (v : Nat) (i : Nat) (s : TS) (ext : List Nat) : Prop where
 inv : TI g s (st ++ v :: ext) (v :: gray)
 fr : Fr g s0 s
 iv : ix s v = s0.next + 1
 lv : 1 ≤ lw s v
 lv2 : lw s v ≤ ix s v
 wit : ∃ y, y ∈ st ++ v :: ext ∧ ix s y = lw s v ∧ R g v y
 out : ∀ b, b ∈ ext → ∀ y, y ∈ st → Ed g b y → lw s v ≤ ix s y
 did : ∀ j : Nat, j < i → ∀ y : Nat, rd (g.getD v []) (j : Int) = (y : Int) → y < g.length → ix s y ≠ 0 ∧ (y ∈ st → lw s v ≤ ix s y)

theorem TI.len (h : TI g s st gray) : st.length ≤ g.length := nodup_le g.length st (h.srt.imp (fun h e => by rw [e] at h; exact absurd h (Int.lt_irrefl _))) h.stn

/-! ### the end of a search -/
theorem down_ok (l : List Int) (v : Int) (a : Nat) (ha : rd l (a : Int) = v) : ∀ d : Nat, (∀ j : Nat, a < j → j ≤ a + d → rd l (j : Int) ≠ v) → downT l v (a + d) = some a
 | 0, _ => by
   cases a with
   | zero => simp only [downT]; rw [if_pos (by simpa using ha)]
   | succ a => simp only [downT]; rw [if_pos ha]
 | d + 1, h => by
   rw [show a + (d + 1) = (a + d) + 1 by omega]
   unfold downT
   rw [if_neg (h (a + d + 1) (by omega) (by omega)), down_ok l v a ha d (fun j h1 h2 => h j h1 (by omega))]
theorem assign_ok (f : Int) : ∀ (C : List Nat) (o : List Int) (n : Nat), o.length = n → (∀ c, c ∈ C → c < n) → ∃ o', assignT o (up C) f = some o' ∧ o'.length = n ∧ ∀ w : Nat, rd o' (w : Int) = if w ∈ C then f else rd o (w : Int)
 | [], o, n, hl, _ => ⟨o, rfl, hl, fun w => by simp⟩
 | c :: C, o, n, hl, h => by
   have hc := h c (List.mem_cons_self ..)
   obtain ⟨o', h1, h2, h3⟩ := assign_ok f C (o.set c f) n (by rw [List.length_set]; exact hl) (fun c hc => h c (List.mem_cons_of_mem _ hc))
   refine ⟨o', ?_, h2, fun w => ?_⟩
   · show (if 0 ≤ (c : Int) then (if (c : Int) < (o.length : Int) then assignT (o.set (c : Int).toNat f) (up C) f else none) else none) = some o'
     rw [if_pos (by omega), if_pos (by omega), Int.toNat_natCast, h1]
   · rw [h3 w]
     by_cases e : w ∈ C
     · rw [if_pos e, if_pos (List.mem_cons_of_mem _ e)]
     · rw [if_neg e]
       have := rd_set o (c : Int) (w : Int) f (by omega) (by omega) (by omega)
       rw [Int.toNat_natCast] at this
       rw [this]
       by_cases e2 : w = c
       · rw [if_pos (by omega), if_pos (by rw [e2]; exact List.mem_cons_self ..)]
       · rw [if_neg (by omega), if_neg (fun hm => (List.mem_cons.1 hm).elim e2 e)]
theorem least_ok : ∀ (C : List Nat) (a : Nat), ∃ m : Nat, (up C).foldl mn (a : Int) = (m : Int) ∧ (m = a ∨ m ∈ C) ∧ m ≤ a ∧ ∀ c, c ∈ C → m ≤ c
 | [], a => ⟨a, rfl, .inl rfl, Nat.le_refl _, fun c h => by cases h⟩
 | c :: C, a => by
   have hf : (up (c :: C)).foldl mn (a : Int) = (up C).foldl mn (((if c < a then c else a : Nat) : Nat) : Int) := by
     show (up C).foldl mn (mn (a : Int) (c : Int)) = _
     congr 1
     unfold mn
     by_cases e : c < a
     · rw [if_pos e, if_pos (by omega)]
     · rw [if_neg e, if_neg (by omega)]
   obtain ⟨m, h1, h2, h3, h4⟩ := least_ok C (if c < a then c else a)
   refine ⟨m, hf.trans h1, ?_, ?_, fun x hx => ?_⟩
   · rcases h2 with h2 | h2
     · by_cases e : c < a
       · rw [if_pos e] at h2; exact .inr (by rw [h2]; exact List.mem_cons_self ..)
       · rw [if_neg e] at h2; exact .inl h2
     · exact .inr (List.mem_cons_of_mem _ h2)
   · split at h3 <;> omega
   · rcases List.mem_cons.1 hx with rfl | hx
     · split at h3 <;> omega
     · exact h4 x hx

theorem LI.fin {s0 : TS} {ext : List Nat} (h : LI g s0 st gray v (g.getD v []).length s ext) (hv : v < g.length) (h0 : TI g s0 st gray) (hw : ix s0 v = 0) :
   ∃ s' e', (if rd s.low (v : Int) = rd s.index (v : Int) then finishT (v : Int) s else some s) = some s' ∧ Post g s0 st gray v s' e' := by
 obtain ⟨I, fr, iv, lv, lv2, wit, hout, did⟩ := h
 have hvst : v ∉ st := fun hm => ((h0.on v hv).1 hm).1 hw
 have succ : ∀ y, Ed g v y → ix s y ≠ 0 ∧ (y ∈ st → lw s v ≤ ix s y) := fun y hy => by
   obtain ⟨j, hj, e⟩ := mem_rd hy.2.2
   exact did j hj y e hy.2.1
 obtain ⟨p1, p2, p3⟩ := List.pairwise_append.1 I.srt
 obtain ⟨p4, p5⟩ := List.pairwise_cons.1 p2
 have before : ∀ y, y ∈ st → ix s y < ix s v := fun y hy => p3 y hy v (List.mem_cons_self ..)
 have after : ∀ b, b ∈ v :: ext → ix s v ≤ ix s b := fun b hb => by
   rcases List.mem_cons.1 hb with rfl | hb
   · exact Int.le_refl _
   · exact Int.le_of_lt (p4 b hb)
 have grst : ∀ x, x ∈ gray → x ∈ st := fun x hx => h0.gr x hx
 have ext0 : ∀ b, b ∈ ext → b ∉ v :: gray := fun b hb hm => by
   rcases List.mem_cons.1 hm with rfl | hm
   · exact absurd (p4 b hb) (Int.lt_irrefl _)
   · have := before b (grst b hm)
     have := p4 b hb
     omega
 by_cases c : rd s.low (v : Int) = rd s.index (v : Int)
 · have c' : lw s v = ix s v := c
   rw [if_pos c]
   -- the component is closed but for what is done
   have closed : ∀ b w, b ∈ v :: ext → Ed g b w → Bl s w ∨ w ∈ v :: ext := fun b w hb he => by
     have hwn : ix s w ≠ 0 ∧ (w ∈ st → lw s v ≤ ix s w) := by
       rcases List.mem_cons.1 hb with rfl | hb
       · exact succ w he
       · have hbs : b ∈ st ++ v :: ext := List.mem_append.2 (.inr (List.mem_cons_of_mem _ hb))
         exact ⟨I.nw b w he ((I.on b he.1).1 hbs).1 (ext0 b hb), fun hws => hout b hb w hws he⟩
     by_cases e : ou s w = -1
     · have hm := (I.on w he.2.1).2 ⟨hwn.1, e⟩
       rcases List.mem_append.1 hm with hm | hm
       · have := hwn.2 hm
         have := before w hm
         omega
       · exact .inr hm
     · exact .inl ⟨hwn.1, e⟩
   have reach : ∀ b w, b ∈ v :: ext → R g b w → Bl s w ∨ w ∈ v :: ext := fun b w hb hr => R.closed (p := fun w => Bl s w ∨ w ∈ v :: ext) (fun a c ha he => ha.elim (fun ha => .inl (I.bb a c he ha)) (fun ha => closed a c ha he)) hr (.inr hb)
   have inst : ∀ b, b ∈ v :: ext → b ∈ st ++ v :: ext := fun b hb => List.mem_append.2 (.inr hb)
   have toC : ∀ b, b ∈ v :: ext → R g v b := fun b hb => I.down v (List.mem_cons_self ..) b (inst b hb) (after b hb)
   have notB : ∀ b, b ∈ st ++ v :: ext → ¬ Bl s b := fun b hb h => h.2 ((I.on b (I.stn b hb)).1 hb).2
   have fromC : ∀ b, b ∈ v :: ext → R g b v := fun b hb => by
     obtain ⟨x, hx, _, hr⟩ := I.back b (inst b hb)
     rcases List.mem_cons.1 hx with rfl | hx
     · exact hr
     · rcases reach b x hb hr with h | h
       · exact absurd h (notB x (List.mem_append.2 (.inl (grst x hx))))
       · have := before x (grst x hx)
         have := after x h
         omega
   have scc : ∀ b w, b ∈ v :: ext → R g b w → R g w b → w ∈ v :: ext := fun b w hb h1 h2 => by
     rcases reach b w hb h1 with h | h
     · exact absurd (R.closed (p := fun w => Bl s w) (fun a c ha he => I.bb a c he ha) h2 h) (notB b (inst b hb))
     · exact h
   obtain ⟨m, m1, m2, m3, m4⟩ := least_ok (v :: ext) v
   have mC : m ∈ v :: ext := m2.elim (fun h => by rw [h]; exact List.mem_cons_self ..) id
   obtain ⟨o, o1, o2, o3⟩ := assign_ok (m : Int) (v :: ext) s.out g.length I.lo (fun c hc => I.stn c (inst c hc))
   have hlen : s.stack.length = st.length + (ext.length + 1) := by rw [I.stk, up_len]; simp
   have hdrop : s.stack.drop st.length = up (v :: ext) := by rw [I.stk, up_app, ← up_len st, List.drop_left]
   have htake : s.stack.take st.length = up st := by rw [I.stk, up_app, ← up_len st, List.take_left]
   have hdown : downT s.stack (v : Int) (s.stack.length - 1) = some st.length := by
     rw [show s.stack.length - 1 = st.length + ext.length by omega, I.stk]
     refine down_ok _ _ _ ?_ _ (fun j j1 j2 => ?_)
     · rw [up_rd _ _ (by simp)]
       simp
     · have hj : j < (st ++ v :: ext).length := by simp; omega
       rw [up_rd _ _ hj]
       have : (st ++ v :: ext)[j] ∈ ext := by
         rw [List.getElem_append_right (by omega), List.getElem_cons]
         rw [dif_neg (by omega)]
         exact List.getElem_mem _
       intro e
       have e2 : (st ++ v :: ext)[j] = v := by omega
       rw [e2] at this
       exact ext0 v this (List.mem_cons_self ..)
   refine ⟨{ s with out := o, stack := up st }, [], ?_, ?_⟩
   · unfold finishT
     rw [if_pos (by omega), hdown]
     simp only [Option.bind_some]
     rw [hdrop, htake, m1, o1]
     rfl
   · have eix : ∀ w, ix { s with out := o, stack := up st } w = ix s w := fun w => rfl
     have elw : ∀ w, lw { s with out := o, stack := up st } w = lw s w := fun w => rfl
     have eou : ∀ w, ou { s with out := o, stack := up st } w = if w ∈ v :: ext then (m : Int) else ou s w := fun w => o3 w
     have stC : ∀ w, w ∈ st → w ∉ v :: ext := fun w hw hm => by
       have := before w hw
       have := after w hm
       omega
     have bl : ∀ w, w < g.length → (Bl { s with out := o, stack := up st } w ↔ Bl s w ∨ w ∈ v :: ext) := fun w hw => by
       unfold Bl
       rw [eix, eou]
       by_cases e : w ∈ v :: ext
       · rw [if_pos e]
         exact ⟨fun _ => .inr e, fun _ => ⟨((I.on w hw).1 (inst w e)).1, by omega⟩⟩
       · rw [if_neg e]
         exact ⟨.inl, fun h => h.elim id (fun h => absurd h e)⟩
     refine ⟨⟨I.li, I.ll, o2, by rw [List.append_nil], fun w hw => by rw [List.append_nil] at hw; exact h0.stn w hw, by rw [List.append_nil]; exact p1, fun w hw => ?_, I.nx, I.n0, I.pos, fun x hx => by rw [List.append_nil]; exact grst x hx, fun a b he ha hag => ?_, fun a b he ha => ?_, fun a ha hb => ?_, fun x hx y hy hle => ?_, fun y hy => ?_⟩, ⟨fr.nx, fr.ix, fr.lw, fun w hw h1 => ?_⟩, ?_, .inl ⟨rfl, ?_, ?_⟩⟩
     · rw [List.append_nil, eix, eou]
       constructor
       · intro hm
         rw [if_neg (stC w hm)]
         exact (I.on w hw).1 (List.mem_append.2 (.inl hm))
       · intro ⟨h1, h2⟩
         by_cases e : w ∈ v :: ext
         · rw [if_pos e] at h2; omega
         · rw [if_neg e] at h2
           exact (List.mem_append.1 ((I.on w hw).2 ⟨h1, h2⟩)).elim id (fun h => absurd h e)
     · rw [eix] at ha ⊢
       by_cases e : a = v
       · subst e; exact (succ b he).1
       · exact I.nw a b he ha (fun hm => (List.mem_cons.1 hm).elim e hag)
     · rw [bl a he.1] at ha
       rw [bl b he.2.1]
       exact ha.elim (fun ha => .inl (I.bb a b he ha)) (fun ha => closed a b ha he)
     · rw [eou]
       by_cases e : a ∈ v :: ext
       · rw [if_pos e]
         exact ⟨m, rfl, (fromC a e).trans (toC m mC), (fromC m mC).trans (toC a e), fun w h1 h2 => (List.mem_cons.1 (scc a w e h1 h2)).elim (fun h => by rw [h]; exact m3) (fun h => m4 w (List.mem_cons_of_mem _ h))⟩
       · rw [if_neg e]
         exact I.lst a ha (((bl a ha).1 hb).elim id (fun h => absurd h e))
     · rw [List.append_nil] at hy
       exact I.down x (List.mem_cons_of_mem _ hx) y (List.mem_append.2 (.inl hy)) hle
     · rw [List.append_nil] at hy
       obtain ⟨x, hx, h1, h2⟩ := I.back y (List.mem_append.2 (.inl hy))
       rcases List.mem_cons.1 hx with rfl | hx
       · have := before y hy
         omega
       · exact ⟨x, hx, h1, h2⟩
     · rw [eou, if_neg (fun hm => ?_)]
       · exact fr.ou w hw h1
       · by_cases hws : w ∈ st
         · exact stC w hws hm
         · have h3 := fr.ou w hw h1
           have h4 := ((I.on w hw).1 (inst w hm)).2
           rw [h4] at h3
           exact hws ((h0.on w hw).2 ⟨h1, h3.symm⟩)
     · rw [eix, iv]; have := h0.n0; omega
     · exact (bl v hv).2 (.inr (List.mem_cons_self ..))
     · rw [elw, c', iv]; omega
 · have c' : lw s v < ix s v := by
     have : lw s v ≠ ix s v := c
     omega
   rw [if_neg c]
   refine ⟨s, v :: ext, rfl, ⟨I.li, I.ll, I.lo, I.stk, I.stn, I.srt, I.on, I.nx, I.n0, I.pos, fun x hx => I.gr x (List.mem_cons_of_mem _ hx), fun a b he ha hag => ?_, I.bb, I.lst, fun x hx => I.down x (List.mem_cons_of_mem _ hx), fun y hy => ?_⟩, fr, by rw [iv]; have := h0.n0; omega, .inr ⟨List.mem_cons_self .., lv, wit, fun b hb y hy he => ?_⟩⟩
   · by_cases e : a = v
     · subst e; exact (succ b he).1
     · exact I.nw a b he ha (fun hm => (List.mem_cons.1 hm).elim e hag)
   · obtain ⟨x, hx, h1, h2⟩ := I.back y hy
     rcases List.mem_cons.1 hx with rfl | hx
     · obtain ⟨z, hz, z1, z2⟩ := wit
       obtain ⟨x', hx', h3, h4⟩ := I.back z hz
       rcases List.mem_cons.1 hx' with rfl | hx'
       · omega
       · exact ⟨x', hx', by omega, (h2.trans z2).trans h4⟩
     · exact ⟨x, hx, h1, h2⟩
   · rw [← fr.ix y (h0.stn y hy) ((h0.on y (h0.stn y hy)).1 hy).1]
     rcases List.mem_cons.1 hb with rfl | hb
     · exact (succ y he).2 hy
     · exact hout b hb y hy he

/-! ### the loop of a search -/
theorem TI.low (h : TI g s st gray) (l : List Int) (hl : l.length = g.length) : TI g { s with low := l } st gray := ⟨h.li, hl, h.lo, h.stk, h.stn, h.srt, h.on, h.nx, h.n0, h.pos, h.gr, h.nw, h.bb, h.lst, h.down, h.back⟩
theorem lw_set (s : TS) (v w : Nat) (m : Int) (hv : v < s.low.length) : lw { s with low := s.low.set v m } w = if w = v then m else lw s w := by
 have := rd_set s.low (v : Int) (w : Int) m (by omega) (by omega) (by omega)
 rw [Int.toNat_natCast] at this
 show rd (s.low.set v m) (w : Int) = _
 rw [this]
 by_cases e : w = v
 · rw [if_pos e, if_pos (by omega)]
 · rw [if_neg e, if_neg (by omega)]; rfl
theorem LI.put {s0 : TS} {ext : List Nat} {i : Nat} (h : LI g s0 st gray v i s ext) (hv : v < g.length) (hw : ix s0 v = 0) {m : Int} (h1 : 1 ≤ m) (h2 : m ≤ lw s v) (wit : ∃ y, y ∈ st ++ v :: ext ∧ ix s y = m ∧ R g v y) :
   LI g s0 st gray v i { s with low := s.low.set v m } ext := by
 have hl := lw_set s v
 have hll := h.inv.ll
 have e : lw { s with low := s.low.set v m } v = m := by rw [hl v m (by omega), if_pos rfl]
 refine ⟨h.inv.low _ (by rw [List.length_set]; exact hll), ⟨h.fr.nx, h.fr.ix, fun w hwn h0 => ?_, h.fr.ou⟩, h.iv, by rw [e]; exact h1, by rw [e]; exact Int.le_trans h2 h.lv2, by rw [e]; exact wit, fun b hb y hy he => by rw [e]; exact Int.le_trans h2 (h.out b hb y hy he), fun j hj y hy hyn => ⟨(h.did j hj y hy hyn).1, fun hys => by rw [e]; exact Int.le_trans h2 ((h.did j hj y hy hyn).2 hys)⟩⟩
 rw [hl w m (by omega), if_neg (fun e => h0 (by rw [e]; exact hw))]
 exact h.fr.lw w hwn h0
theorem LI.next {s0 : TS} {ext : List Nat} {i : Nat} (h : LI g s0 st gray v i s ext) (d : ∀ y : Nat, rd (g.getD v []) (i : Int) = (y : Int) → y < g.length → ix s y ≠ 0 ∧ (y ∈ st → lw s v ≤ ix s y)) : LI g s0 st gray v (i + 1) s ext :=
 ⟨h.inv, h.fr, h.iv, h.lv, h.lv2, h.wit, h.out, fun j hj y hy hyn => by
   by_cases e : j = i
   · subst e; exact d y hy hyn
   · exact h.did j (by omega) y hy hyn⟩
theorem mn_le (a b : Int) : mn a b ≤ a ∧ mn a b ≤ b ∧ (mn a b = a ∨ mn a b = b) := by
 unfold mn
 split
 · exact ⟨by omega, by omega, .inr rfl⟩
 · exact ⟨by omega, by omega, .inl rfl⟩
theorem LI.call {s0 s2 : TS} {ext ext2 : List Nat} {i : Nat} (h : LI g s0 st gray v i s ext) (h0 : TI g s0 st gray) (hv : v < g.length) (hw : ix s0 v = 0) (he : Ed g v w) (p : Post g s (st ++ v :: ext) (v :: gray) w s2 ext2) :
   LI g s0 st gray v i { s2 with low := s2.low.set v (mn (lw s2 v) (lw s2 w)) } (ext ++ ext2) := by
 have hl := lw_set s2 v
 have hll := p.inv.ll
 have hiv0 : ix s v ≠ 0 := by rw [h.iv]; have := h0.n0; omega
 have elv : lw s2 v = lw s v := p.fr.lw v hv hiv0
 have eiv : ix s2 v = ix s v := p.fr.ix v hv hiv0
 obtain ⟨m, hm⟩ : ∃ m, m = mn (lw s2 v) (lw s2 w) := ⟨_, rfl⟩
 rw [← hm]
 have e : lw { s2 with low := s2.low.set v m } v = m := by rw [hl v m (by omega), if_pos rfl]
 have happ : (st ++ v :: ext) ++ ext2 = st ++ v :: (ext ++ ext2) := by simp
 have I2 := p.inv
 rw [happ] at I2
 obtain ⟨n1, n2, n3⟩ := mn_le (lw s2 v) (lw s2 w)
 rw [← hm] at n1 n2 n3
 have old : ∀ y, y ∈ st ++ v :: ext → ix s2 y = ix s y := fun y hy => p.fr.ix y (h.inv.stn y hy) ((h.inv.on y (h.inv.stn y hy)).1 hy).1
 have m1 : 1 ≤ m := by
   have := h.lv
   rcases p.how with ⟨_, _, q⟩ | ⟨_, q, _⟩
   · have := h.inv.n0
     rcases n3 with n3 | n3 <;> omega
   · rcases n3 with n3 | n3 <;> omega
 have wit : ∃ y, y ∈ st ++ v :: (ext ++ ext2) ∧ ix s2 y = m ∧ R g v y := by
   have one : m = lw s v → ∃ y, y ∈ st ++ v :: (ext ++ ext2) ∧ ix s2 y = m ∧ R g v y := fun h2 => by
     obtain ⟨y, y1, y2, y3⟩ := h.wit
     exact ⟨y, by rw [← happ]; exact List.mem_append.2 (.inl y1), by rw [old y y1, y2, h2], y3⟩
   rcases n3 with n3 | n3
   · exact one (by rw [n3, elv])
   · rcases p.how with ⟨_, _, q⟩ | ⟨_, _, ⟨y, y1, y2, y3⟩, _⟩
     · have := (h.inv.pos v hv).2
       have := h.lv2
       omega
     · exact ⟨y, by rw [← happ]; exact y1, by rw [y2, n3], (R.edge he).trans y3⟩
 refine ⟨I2.low _ (by rw [List.length_set]; exact hll), ⟨Int.le_trans h.fr.nx p.fr.nx, fun w' hn h1 => (h.fr.trans p.fr).ix w' hn h1, fun w' hn h1 => ?_, fun w' hn h1 => (h.fr.trans p.fr).ou w' hn h1⟩, eiv.trans h.iv, by rw [e]; exact m1, ?_, by rw [e]; exact wit, fun b hb y hy hed => ?_, fun j hj y hy hyn => ?_⟩
 · rw [hl w' m (by omega), if_neg (fun e => h1 (by rw [e]; exact hw))]
   exact (h.fr.trans p.fr).lw w' hn h1
 · rw [e]
   show m ≤ ix s2 v
   rw [eiv]
   have := h.lv2
   omega
 · rw [e]
   have hy2 : y ∈ st ++ v :: ext := List.mem_append.2 (.inl hy)
   show m ≤ ix s2 y
   rw [old y hy2]
   rcases List.mem_append.1 hb with hb | hb
   · have := h.out b hb y hy hed
     omega
   · rcases p.how with ⟨q, _, _⟩ | ⟨_, _, _, q⟩
     · rw [q] at hb; cases hb
     · have := q b hb y hy2 hed
       omega
 · obtain ⟨d1, d2⟩ := h.did j hj y hy hyn
   have e2 := p.fr.ix y hyn d1
   refine ⟨by show ix s2 y ≠ 0; rw [e2]; exact d1, fun hys => ?_⟩
   rw [e]
   show m ≤ ix s2 y
   rw [e2]
   have := d2 hys
   omega

theorem search_begin (h : TI g s st gray) (hv : v < g.length) (hw : ix s v = 0) (hr : ∀ x, x ∈ gray → R g x v) :
   LI g s st gray v 0 { next := s.next + 1, index := s.index.set v (s.next + 1), low := s.low.set v (s.next + 1), out := s.out.set v (-1), stack := s.stack ++ [(v : Int)] } [] := by
 obtain ⟨s1, hs1⟩ : ∃ s1 : TS, s1 = { next := s.next + 1, index := s.index.set v (s.next + 1), low := s.low.set v (s.next + 1), out := s.out.set v (-1), stack := s.stack ++ [(v : Int)] } := ⟨_, rfl⟩
 rw [← hs1]
 have hli := h.li
 have hll := h.ll
 have hlo := h.lo
 have hn0 := h.n0
 have eix : ∀ w : Nat, ix s1 w = if w = v then s.next + 1 else ix s w := fun w => by
   have := rd_set s.index (v : Int) (w : Int) (s.next + 1) (by omega) (by omega) (by omega)
   rw [Int.toNat_natCast] at this
   rw [hs1]
   show rd (s.index.set v (s.next + 1)) (w : Int) = _
   rw [this]
   by_cases e : w = v
   · rw [if_pos e, if_pos (by omega)]
   · rw [if_neg e, if_neg (by omega)]; rfl
 have elw : ∀ w : Nat, lw s1 w = if w = v then s.next + 1 else lw s w := fun w => by
   have := rd_set s.low (v : Int) (w : Int) (s.next + 1) (by omega) (by omega) (by omega)
   rw [Int.toNat_natCast] at this
   rw [hs1]
   show rd (s.low.set v (s.next + 1)) (w : Int) = _
   rw [this]
   by_cases e : w = v
   · rw [if_pos e, if_pos (by omega)]
   · rw [if_neg e, if_neg (by omega)]; rfl
 have eou : ∀ w : Nat, ou s1 w = if w = v then -1 else ou s w := fun w => by
   have := rd_set s.out (v : Int) (w : Int) (-1) (by omega) (by omega) (by omega)
   rw [Int.toNat_natCast] at this
   rw [hs1]
   show rd (s.out.set v (-1)) (w : Int) = _
   rw [this]
   by_cases e : w = v
   · rw [if_pos e, if_pos (by omega)]
   · rw [if_neg e, if_neg (by omega)]; rfl
 have ne : ∀ w, ix s w ≠ 0 → w ≠ v := fun w h0 e => h0 (by rw [e]; exact hw)
 have stne : ∀ w, w ∈ st → w ≠ v := fun w hm => ne w ((h.on w (h.stn w hm)).1 hm).1
 have stv : ∀ w, w ∈ st → ix s1 w = ix s w := fun w hm => by rw [eix, if_neg (stne w hm)]
 have ivv : ix s1 v = s.next + 1 := by rw [eix, if_pos rfl]
 have bl : ∀ w, Bl s1 w ↔ Bl s w := fun w => by
   unfold Bl
   rw [eix, eou]
   by_cases e : w = v
   · rw [if_pos e, if_pos e]
     exact ⟨fun h => absurd rfl h.2, fun h => absurd e (ne w h.1)⟩
   · rw [if_neg e, if_neg e]
 have hnx : s1.next = s.next + 1 := by rw [hs1]
 have hix : s1.index = s.index.set v (s.next + 1) := by rw [hs1]
 refine ⟨⟨by rw [hix, List.length_set]; exact hli, by rw [hs1]; show (s.low.set v (s.next + 1)).length = _; rw [List.length_set]; exact hll, by rw [hs1]; show (s.out.set v (-1)).length = _; rw [List.length_set]; exact hlo, by rw [hs1]; show s.stack ++ [(v : Int)] = _; rw [up_app, h.stk]; rfl, fun w hm => ?_, ?_, fun w hwn => ?_, ?_, by rw [hnx]; omega, fun w hwn => ?_, fun x hx => ?_, fun a b he ha hag => ?_, fun a b he ha => ?_, fun a ha hb => ?_, fun x hx y hy hle => ?_, fun y hy => ?_⟩, ⟨by rw [hnx]; omega, fun w hwn h0 => by rw [eix, if_neg (ne w h0)], fun w hwn h0 => by rw [elw, if_neg (ne w h0)], fun w hwn h0 => by rw [eou, if_neg (ne w h0)]⟩, ivv, by rw [elw, if_pos rfl]; omega, by rw [elw, if_pos rfl, ivv]; exact Int.le_refl _, ⟨v, by simp, by rw [ivv, elw, if_pos rfl], R.refl hv⟩, fun b hb => (by cases hb), fun j hj => absurd hj (Nat.not_lt_zero _)⟩
 · rcases List.mem_append.1 hm with hm | hm
   · exact h.stn w hm
   · simp at hm; omega
 · refine List.pairwise_append.2 ⟨h.srt.imp_of_mem (fun ha hb hab => by rw [stv _ ha, stv _ hb]; exact hab), by simp, fun a ha b hb => ?_⟩
   simp at hb
   rw [hb, stv a ha, ivv]
   have := (h.pos a (h.stn a ha)).2
   omega
 · rw [eix, eou, List.mem_append]
   by_cases e : w = v
   · rw [if_pos e, if_pos e]
     exact ⟨fun _ => ⟨by omega, rfl⟩, fun _ => .inr (by simp [e])⟩
   · rw [if_neg e, if_neg e, ← h.on w hwn]
     exact ⟨fun h => h.elim id (fun h => by simp at h; exact absurd h e), .inl⟩
 · have hc := count_set z0 s.index v (s.next + 1) 0 (by omega)
   have e1 : z0 (s.index.getD v 0) = true := by
     unfold z0
     rw [← rd_nat]
     exact decide_eq_true hw
   have e2 : z0 (s.next + 1) = false := decide_eq_false (by omega)
   rw [e1, e2, if_pos rfl, if_neg Bool.false_ne_true] at hc
   have := h.nx
   rw [hnx, hix]
   omega
 · rw [eix, hnx]
   have := h.pos w hwn
   split <;> omega
 · rcases List.mem_cons.1 hx with rfl | hx
   · simp
   · exact List.mem_append.2 (.inl (h.gr x hx))
 · have hav : a ≠ v := fun e => hag (by rw [e]; exact List.mem_cons_self ..)
   rw [eix, if_neg hav] at ha
   have := h.nw a b he ha (fun hm => hag (List.mem_cons_of_mem _ hm))
   rw [eix, if_neg (ne b this)]
   exact this
 · exact (bl b).2 (h.bb a b he ((bl a).1 ha))
 · have hb2 := (bl a).1 hb
   rw [eou, if_neg (ne a hb2.1)]
   exact h.lst a ha hb2
 · rcases List.mem_cons.1 hx with rfl | hx
   · rcases List.mem_append.1 hy with hy | hy
     · rw [ivv, stv y hy] at hle
       have := (h.pos y (h.stn y hy)).2
       omega
     · simp at hy
       rw [hy]; exact R.refl hv
   · rcases List.mem_append.1 hy with hy | hy
     · rw [stv y hy, stv x (h.gr x hx)] at hle
       exact h.down x hx y hy hle
     · simp at hy
       rw [hy]; exact hr x hx
 · rcases List.mem_append.1 hy with hy | hy
   · obtain ⟨x, hx, h1, h2⟩ := h.back y hy
     exact ⟨x, List.mem_cons_of_mem _ hx, by rw [stv y hy, stv x (h.gr x hx)]; exact h1, h2⟩
   · simp at hy
     exact ⟨v, List.mem_cons_self .., by rw [hy]; exact Int.le_refl _, by rw [hy]; exact R.refl hv⟩

theorem search_ev (h12 : g.length ≤ 1000000) (h20 : ∀ u, u < g.length → (g.getD u []).length ≤ 1000000) (rdL : ∀ i : Nat, rd_L11 g (i : Int) = g.getD i []) : ∀ (M : Nat) (s : TS) (st gray : List Nat) (v : Nat), s.index.countP z0 ≤ M → TI g s st gray → v < g.length → ix s v = 0 → (∀ x, x ∈ gray → R g x v) → ∃ s' ext, Ev (fun k => searchT k g (v : Int) s) s' ∧ Post g s st gray v s' ext := by
 intro M
 induction M with
 | zero =>
   intro s st gray v hM h hv hw hr
   exfalso
   have hli := h.li
   have : s.index.getD v 0 ∈ s.index := by
     rw [List.getD_eq_getElem?_getD, List.getElem?_eq_getElem (by omega)]
     exact List.getElem_mem _
   have h0 := (List.countP_eq_zero.1 (Nat.le_zero.1 hM)) _ this
   exact h0 (by unfold z0; rw [← rd_nat]; exact decide_eq_true hw)
 | succ M ih =>
   intro s st gray v hM h hv hw hr
   have hb := search_begin h hv hw hr
   obtain ⟨s1, hs1⟩ : ∃ s1 : TS, s1 = { next := s.next + 1, index := s.index.set v (s.next + 1), low := s.low.set v (s.next + 1), out := s.out.set v (-1), stack := s.stack ++ [(v : Int)] } := ⟨_, rfl⟩
   rw [← hs1] at hb
   have hxl := h20 v hv
   obtain ⟨s2, ⟨ext, h2⟩, hk⟩ := Ev_for (l := fun k (s : TS) i => loopT k g (v : Int) (g.getD v []) i s) (n := (g.getD v []).length) (inv := fun i s' => ∃ ext, LI g s st gray v i s' ext)
     (fun i s' hi ⟨ext, hL⟩ => by
       obtain ⟨a, ha⟩ : ∃ a, a = rd (g.getD v []) (i : Int) := ⟨_, rfl⟩
       by_cases c : 0 ≤ a ∧ a < (g.length : Int)
       · obtain ⟨c0, c1⟩ := c
         obtain ⟨w, rfl⟩ : ∃ w : Nat, a = (w : Int) := ⟨a.toNat, by omega⟩
         have hwn : w < g.length := by omega
         have he : Ed g v w := ⟨hv, hwn, by rw [ha]; exact rd_mem (by omega) (by omega)⟩
         by_cases d : rd s'.index (w : Int) = 0
         · have hgr : ∀ x, x ∈ v :: gray → R g x w := fun x hx => by
             rcases List.mem_cons.1 hx with rfl | hx
             · exact R.edge he
             · exact (hr x hx).trans (R.edge he)
           have hcnt : s'.index.countP z0 ≤ M := by
             have h1 := hL.inv.nx
             have h2 := h.nx
             have h3 := (hL.inv.pos v hv).2
             have h4 := hL.iv
             omega
           obtain ⟨s2, ext2, hev, hp⟩ := ih s' (st ++ v :: ext) (v :: gray) w hcnt hL.inv hwn d hgr
           refine ⟨_, ⟨ext ++ ext2, (hL.call h hv hw he hp).next (fun y hy hyn => ?_)⟩, fun r h => Ev.step (fun k => ?_) (Ev.bind (f := fun k s2 => loopT k g (v : Int) (g.getD v []) ((i + 1 : Nat) : Int) { s2 with low := s2.low.set v (mn (lw s2 v) (lw s2 w)) }) hev h)⟩
           · have : y = w := by omega
             subst this
             refine ⟨hp.seen, fun hys => ?_⟩
             exact absurd d ((hL.inv.on y hyn).1 (List.mem_append.2 (.inl hys))).1
           · simp only [loopT]
             rw [if_pos (by omega), if_pos (by omega), ← ha, if_pos ⟨c0, c1⟩, if_pos d, wrap_up hi (by omega), Int.toNat_natCast]
             rfl
         · by_cases d2 : rd s'.out (w : Int) = -1
           · have hws : w ∈ st ++ v :: ext := (hL.inv.on w hwn).2 ⟨d, d2⟩
             obtain ⟨n1, n2, n3⟩ := mn_le (lw s' v) (ix s' w)
             refine ⟨_, ⟨ext, (hL.put hv hw (m := mn (lw s' v) (ix s' w)) ?_ n1 ?_).next (fun y hy hyn => ?_)⟩, fun r h => Ev.step (fun k => ?_) h⟩
             · have h1 := hL.lv
               have h2 := (hL.inv.pos w hwn).1
               have d' : ix s' w ≠ 0 := d
               rcases n3 with n3 | n3 <;> omega
             · rcases n3 with n3 | n3
               · rw [n3]; exact hL.wit
               · exact ⟨w, hws, n3.symm, R.edge he⟩
             · have : y = w := by omega
               subst this
               refine ⟨d, fun _ => ?_⟩
               rw [lw_set s' v v _ (by rw [hL.inv.ll]; exact hv), if_pos rfl]
               exact n2
             · simp only [loopT]
               rw [if_pos (by omega), if_pos (by omega), ← ha, if_pos ⟨c0, c1⟩, if_neg d, if_pos d2, wrap_up hi (by omega), Int.toNat_natCast]
               rfl
           · refine ⟨s', ⟨ext, hL.next (fun y hy hyn => ?_)⟩, fun r h => Ev.step (fun k => ?_) h⟩
             · have : y = w := by omega
               subst this
               exact ⟨d, fun hys => absurd ((hL.inv.on y hyn).1 (List.mem_append.2 (.inl hys))).2 d2⟩
             · simp only [loopT]
               rw [if_pos (by omega), if_pos (by omega), ← ha, if_pos ⟨c0, c1⟩, if_neg d, if_neg d2, wrap_up hi (by omega)]
       · refine ⟨s', ⟨ext, hL.next (fun y hy hyn => absurd (by omega) c)⟩, fun r h => Ev.step (fun k => ?_) h⟩
         simp only [loopT]
         rw [if_pos (by omega), if_pos (by omega), ← ha, if_neg c, wrap_up hi (by omega)])
     (Nat.zero_le _) (s := s1) ⟨[], hb⟩
   obtain ⟨s', e', hfin, hp⟩ := h2.fin hv h hw
   have hnx := h.nx
   have hn0 := h.n0
   refine ⟨s', e', Ev.step (f := fun k => loopT k g (v : Int) (g.getD v []) 0 s1) (fun k => ?_) (hk s' (Ev.one (fun k => ?_))), hp⟩
   · have hlen := h.len
     simp only [searchT]
     rw [if_pos (by omega), if_pos (by omega), if_pos (by rw [h.stk, up_len]; omega), rdL, wrap_ok (by omega) (by omega), Int.toNat_natCast, hs1]
   · simp only [loopT]
     rw [if_neg (by omega)]
     exact hfin

/-- Of each vertex the least one in its component. -/
def IsComp (g : List (List Int)) (c : List Int) : Prop := c.length = g.length ∧ ∀ v, v < g.length → IsL g v (rd c (v : Int))
theorem IsComp.uniq {a b : List Int} (h : IsComp g a) (k : IsComp g b) : a = b := ext_rd (h.1.trans k.1.symm) (fun i hi => (h.2 i (by rw [← h.1]; exact hi)).uniq (k.2 i (by rw [← h.1]; exact hi)))
theorem components_ev (h12 : g.length ≤ 1000000) (h20 : ∀ u, u < g.length → (g.getD u []).length ≤ 1000000) (rdL : ∀ i : Nat, rd_L11 g (i : Int) = g.getD i []) : ∃ c, Ev (fun k => digraph_Components.f k g) c ∧ IsComp g c := by
 have rep : ∀ w : Nat, rd (List.replicate g.length (0 : Int)) (w : Int) = 0 := fun w => by
   rw [rd_nat, List.getD_eq_getElem?_getD, List.getElem?_replicate]
   split <;> rfl
 obtain ⟨s, ⟨hT, hd⟩, hk⟩ := Ev_for (l := fun k (s : TS) i => digraph_Components.l0 k g i s) (n := g.length) (inv := fun i s => TI g s [] [] ∧ ∀ w, w < i → ix s w ≠ 0)
   (fun v s hv ⟨hT, hd⟩ => by
     by_cases c : rd s.index (v : Int) = 0
     · obtain ⟨s', ext, hev, hp⟩ := search_ev h12 h20 rdL _ s [] [] v (Nat.le_refl _) hT hv c (fun x hx => by cases hx)
       have hext : ext = [] := by
         cases ext with
         | nil => rfl
         | cons y l =>
           obtain ⟨x, hx, _⟩ := hp.inv.back y (by simp)
           cases hx
       have hI := hp.inv
       rw [hext] at hI
       refine ⟨s', ⟨hI, fun w hw => ?_⟩, fun r h => Ev.step (fun k => ?_) (Ev.bind hev h)⟩
       · by_cases e : w = v
         · rw [e]; exact hp.seen
         · rw [hp.fr.ix w (by omega) (hd w (by omega))]; exact hd w (by omega)
       · simp only [digraph_Components.l0]
         rw [if_pos (by omega), if_pos (by omega), if_pos c, wrap_up hv (by omega)]
     · refine ⟨s, ⟨hT, fun w hw => ?_⟩, fun r h => Ev.step (fun k => ?_) h⟩
       · by_cases e : w = v
         · rw [e]; exact c
         · exact hd w (by omega)
       · simp only [digraph_Components.l0]
         rw [if_pos (by omega), if_pos (by omega), if_neg c, wrap_up hv (by omega)])
   (Nat.zero_le _) (s := { next := 0, index := List.replicate g.length 0, low := List.replicate g.length 0, out := List.replicate g.length 0, stack := [] })
   ⟨⟨by simp, by simp, by simp, rfl, fun v hv => (by cases hv), List.Pairwise.nil, fun v hv => ⟨fun h => (by cases h), fun h => absurd (rep v) h.1⟩, by rw [List.countP_replicate, if_pos (show z0 0 = true from rfl)]; exact Int.zero_add _, Int.le_refl _, fun v hv => by
       have h0 : ix { next := 0, index := List.replicate g.length 0, low := List.replicate g.length 0, out := List.replicate g.length 0, stack := [] } v = 0 := rep v
       rw [h0]
       exact ⟨Int.le_refl _, Int.le_refl _⟩, fun x hx => (by cases hx), fun a b he ha => absurd (rep a) ha, fun a b he ha => absurd (rep a) ha.1, fun a ha hb => absurd (rep a) hb.1, fun x hx => (by cases hx), fun y hy => (by cases hy)⟩, fun w hw => absurd hw (Nat.not_lt_zero _)⟩
 refine ⟨s.out, Ev.congr (f := fun k => digraph_Components.l0 k g 0 { next := 0, index := List.replicate g.length 0, low := List.replicate g.length 0, out := List.replicate g.length 0, stack := [] }) (fun k => ?_) (hk s.out (Ev.one (fun k => ?_))), hT.lo, fun v hv => hT.lst v hv ⟨hd v hv, fun e => ?_⟩⟩
 · unfold digraph_Components.f
   rw [if_pos (by omega)]
 · simp only [digraph_Components.l0]
   rw [if_neg (by omega)]
 · exact absurd ((hT.on v hv).2 ⟨hd v hv, e⟩) (by simp)
end
end Go.Proofs.Ytnoebjmhimehcaa.Pl
/- Components, as the program finds them; what a bottom component is. -/
namespace Go.Proofs.Ytnoebjmhimehcaa.Pl
open Go.RowKit Go.Proofs.Ytnoebjmhimehcaa.P Go.Proofs.YtnoebjmhimehcaaW.PrintWords Go.Proofs.YtnoebjmhimehcaaW.PrintMore
section
variable {g : List (List Int)}
theorem comp_ev (hf : Few g) : ∃ c, Ev (fun k => digraph_Components.f k g) c ∧ IsComp g c := components_ev (by have := hf.1; omega) (fun u hu => by have := hf.2 u hu; omega) (rdL g)
theorem IsComp.at {c : List Int} (h : IsComp g c) {v : Nat} (hv : v < g.length) : ∃ m : Nat, rd c (v : Int) = (m : Int) ∧ m < g.length ∧ R g v m ∧ R g m v := by
 obtain ⟨m, h1, h2, h3, _⟩ := h.2 v hv
 exact ⟨m, h1, h2.lt.2, h2, h3⟩

end
end Go.Proofs.Ytnoebjmhimehcaa.Pl
/- Whether the flow graph is strongly connected, by the program's text. -/
namespace Go.Proofs.Ytnoebjmhimehcaa.Pl
set_option linter.unusedVariables false
open Go.RowKit Go.Proofs.Ytnoebjmhimehcaa.P Go.Proofs.YtnoebjmhimehcaaW.PrintWords Go.Proofs.YtnoebjmhimehcaaW.PrintMore

/-- One strongly connected component. -/
def oneP (g : List (List Int)) : Prop := 0 < g.length ∧ ∀ v, v < g.length → R g v 0 ∧ R g 0 v
theorem isL_zero {g : List (List Int)} {v : Nat} {x : Int} (h : IsL g v x) (hg : 0 < g.length) : x = 0 ↔ R g v 0 ∧ R g 0 v := by
 obtain ⟨m, rfl, h1, h2, h3⟩ := h
 constructor
 · intro e
   obtain rfl : m = 0 := by omega
   exact ⟨h1, h2⟩
 · rintro ⟨a, b⟩
   have := h3 0 a b
   omega
theorem oneP_nil : ¬ oneP [] := fun h => absurd h.1 (by simp)
open Classical in
noncomputable def strongS (v : Bool) (ps : List Pla) (ts : List Tra) : Bool := decide (oneP (flowS v ps ts))
theorem strong_ev (nm : ByteArray) {ps : List Pla} {ts : List Tra} (hT : Thin ts) : Ev (fun k => netclass_Strong.f k nm ps ts) (strongS (validS nm ps ts) ps ts) := by
 unfold netclass_Strong.f
 refine Ev.bind (nvalid_ev nm hT) ?_
 by_cases hv : validS nm ps ts = true
 · simp only [hv, ↓reduceIte]
   have V := validS_iff.1 hv
   have hp := V.p0
   obtain ⟨h1, h2⟩ := flow_few V
   have hf := flow_ev nm (ps := ps) hT
   rw [hv] at hf
   refine Ev.bind hf ?_
   obtain ⟨c, e1, e2, e3⟩ := comp_ev (g := flowS true ps ts) ⟨h1, fun u hu => Nat.le_trans (h2 u hu) (by decide)⟩
   refine Ev.bind e1 ?_
   have hfl := flow_len (v := true) (ps := ps) (ts := ts) rfl
   refine Ev_ex (L := fun k i => netclass_Strong.l0 k c (c.length : Int) (i : Int)) (n := c.length) (fun i => rd c (i : Int) ≠ 0) (a := false) (e := true) (fun i hi hc => Ev.one fun k => ?_) (fun i hi hc r hr => Ev.step (fun k => ?_) hr) (fun _ => Ev.one fun k => ?_) ?_ ?_
   · simp only [netclass_Strong.l0]
     rw [if_pos (by omega), if_pos (by omega), if_pos (by omega), if_neg hc]
   · simp only [netclass_Strong.l0]
     rw [if_pos (by omega), if_pos (by omega), if_pos (by omega), if_pos (Classical.not_not.1 hc), wrap_up hi (by omega)]
   · simp only [netclass_Strong.l0]
     rw [if_neg (by omega)]
   · rintro ⟨j, hj, hne⟩
     unfold strongS; refine dec_f ?_; exact fun ho => hne ((isL_zero (e3 j (by omega)) ho.1).2 (ho.2 j (by omega)))
   · intro hall
     unfold strongS; refine dec_t ?_; exact ⟨by omega, fun v hv => (isL_zero (e3 v hv) (by omega)).1 (Classical.not_not.1 (hall v (by omega)))⟩
 · rw [Bool.eq_false_iff.2 hv]
   have e : strongS false ps ts = false := by unfold strongS; refine dec_f ?_; rw [show flowS false ps ts = [] from rfl]; exact oneP_nil
   rw [e]
   exact Ev.some _
end Go.Proofs.Ytnoebjmhimehcaa.Pl
/- What makes a net valid, name by name; where a name is found. -/
namespace Go.Proofs.Ytnoebjmhimehcaa.Pl
set_option linter.unusedVariables false
open Go.RowKit Go.Proofs.Ytnoebjmhimehcaa.P Go.Proofs.YtnoebjmhimehcaaW.PrintWords Go.Proofs.YtnoebjmhimehcaaW.PrintMore

theorem nmE_iff {ns : List ByteArray} {s : ByteArray} : nmE ns s = 0 ↔ nameB s = true ∧ ∀ o ∈ ns, o.toList ≠ s.toList := by
 unfold nmE
 by_cases h : nameB s = true
 · rw [if_pos h]
   by_cases c : (ns.any fun o => o.toList == s.toList) = true
   · rw [if_pos c]
     obtain ⟨o, ho, e⟩ := List.any_eq_true.1 c
     exact ⟨fun h0 => (by cases h0), fun h2 => absurd (beq_iff_eq.1 e) (h2.2 o ho)⟩
   · rw [if_neg c]
     exact ⟨fun _ => ⟨h, fun o ho e => c (List.any_eq_true.2 ⟨o, ho, beq_iff_eq.2 e⟩)⟩, fun _ => rfl⟩
 · rw [if_neg h]
   exact ⟨fun h0 => (by cases h0), fun h2 => absurd h2.1 h⟩
theorem take_all {α : Type} (l : List α) (f : α → ByteArray) (z : α) {i : Nat} (hi : i ≤ l.length) (p : ByteArray → Prop) : (∀ o ∈ (l.take i).map f, p o) ↔ ∀ j, j < i → p (f (l.getD j z)) := by
 constructor
 · intro h j hj
   refine h _ (List.mem_map.2 ⟨l.getD j z, ?_, rfl⟩)
   rw [List.getD_eq_getElem?_getD, List.getElem?_eq_getElem (by omega)]
   exact List.mem_take_iff_getElem.2 ⟨j, by omega, rfl⟩
 · intro h o ho
   obtain ⟨x, hx, rfl⟩ := List.mem_map.1 ho
   obtain ⟨j, hj, rfl⟩ := List.mem_take_iff_getElem.1 hx
   have := h j (by omega)
   rw [List.getD_eq_getElem?_getD, List.getElem?_eq_getElem (by omega)] at this
   exact this
theorem trR_iff {ps : List Pla} {ts : List Tra} {i : Nat} (hi : i < ts.length) : trR ps ts i = 0 ↔ nameB (ts.getD i zT).f0 = true ∧ (∀ j, j < ps.length → (ps.getD j zP).f0.toList ≠ (ts.getD i zT).f0.toList) ∧ (∀ j, j < i → (ts.getD j zT).f0.toList ≠ (ts.getD i zT).f0.toList) ∧ transE (ps.length : Int) (ts.getD i zT) = 0 := by
 have e := nmE_iff (ns := ps.map (·.f0) ++ (ts.take i).map (·.f0)) (s := (ts.getD i zT).f0)
 have e1 := take_all ts (·.f0) zT (i := i) (by omega) (fun o => o.toList ≠ (ts.getD i zT).f0.toList)
 have e2 := take_all ps (·.f0) zP (i := ps.length) (by omega) (fun o => o.toList ≠ (ts.getD i zT).f0.toList)
 rw [List.take_length] at e2
 have e3 : (∀ o ∈ ps.map (·.f0) ++ (ts.take i).map (·.f0), o.toList ≠ (ts.getD i zT).f0.toList) ↔ (∀ j, j < ps.length → (ps.getD j zP).f0.toList ≠ (ts.getD i zT).f0.toList) ∧ (∀ j, j < i → (ts.getD j zT).f0.toList ≠ (ts.getD i zT).f0.toList) := by
   rw [← e1, ← e2]
   exact ⟨fun h => ⟨fun o ho => h o (List.mem_append.2 (Or.inl ho)), fun o ho => h o (List.mem_append.2 (Or.inr ho))⟩, fun h o ho => (List.mem_append.1 ho).elim (h.1 o) (h.2 o)⟩
 rw [e3] at e
 unfold trR
 by_cases c : nmE (ps.map (·.f0) ++ (ts.take i).map (·.f0)) (ts.getD i zT).f0 = 0
 · rw [if_neg (by simpa using c)]
   obtain ⟨h1, h2, h3⟩ := e.1 c
   exact ⟨fun h => ⟨h1, h2, h3, h⟩, fun h => h.2.2.2⟩
 · rw [if_pos c]
   exact ⟨fun h => absurd h c, fun h => absurd (e.2 ⟨h.1, h.2.1, h.2.2.1⟩) c⟩
theorem placeS_neg {ps : List Pla} {s : ByteArray} (h : ¬ placeS true ps s ≥ 0) : ∀ j, j < ps.length → (ps.getD j zP).f0.toList ≠ s.toList := by
 intro j hj e
 unfold placeS at h
 rw [if_pos rfl] at h
 rcases first_cases (fun i => if (ps.getD i zP).f0.toList = s.toList then some (i : Int) else none) (-1) ps.length with ⟨_, h2⟩ | ⟨i, _, h2, _⟩
 · have := h2 j hj
   simp only [e, if_true] at this
   cases this
 · by_cases c : (ps.getD i zP).f0.toList = s.toList
   · simp only [c, if_true] at h2
     rw [← Option.some.inj h2] at h; omega
   · simp only [c, if_false] at h2; cases h2
theorem transS_neg {ts : List Tra} {s : ByteArray} (h : ¬ transS true ts s ≥ 0) : ∀ j, j < ts.length → (ts.getD j zT).f0.toList ≠ s.toList := by
 intro j hj e
 unfold transS at h
 rw [if_pos rfl] at h
 rcases first_cases (fun i => if (ts.getD i zT).f0.toList = s.toList then some (i : Int) else none) (-1) ts.length with ⟨_, h2⟩ | ⟨i, _, h2, _⟩
 · have := h2 j hj
   simp only [e, if_true] at this
   cases this
 · by_cases c : (ts.getD i zT).f0.toList = s.toList
   · simp only [c, if_true] at h2
     rw [← Option.some.inj h2] at h; omega
   · simp only [c, if_false] at h2; cases h2
end Go.Proofs.Ytnoebjmhimehcaa.Pl
/- The closed net: it is valid, and its flow graph is strongly connected. -/
namespace Go.Proofs.Ytnoebjmhimehcaa.Pl
set_option linter.unusedVariables false
open Go.RowKit Go.Proofs.Ytnoebjmhimehcaa.P Go.Proofs.YtnoebjmhimehcaaW.PrintWords Go.Proofs.YtnoebjmhimehcaaW.PrintMore
theorem fr_place {ts : List Tra} {K i v : Nat} {np : Int} (ha : ∀ t, t < i → arcsE np (ts.getD t zT).f1 = 0) (hv : v < K) (x : Int) : x ∈ fr ts K i v ↔ ∃ t, t < i ∧ x = ((K + t : Nat) : Int) ∧ (v : Int) ∈ (ts.getD t zT).f1.map (·.f0) := by
 unfold fr
 rw [if_pos hv, List.mem_map]
 constructor
 · rintro ⟨t, ht, rfl⟩
   obtain ⟨h1, h2⟩ := List.mem_filter.1 ht
   have h1 := List.mem_range.1 h1
   exact ⟨t, h1, rfl, (weight_pos (ha t h1) _).1 (of_decide_eq_true h2)⟩
 · rintro ⟨t, ht, rfl, h⟩
   exact ⟨t, List.mem_filter.2 ⟨List.mem_range.2 ht, decide_eq_true ((weight_pos (ha t ht) _).2 h)⟩, rfl⟩
theorem fr_trans {ts : List Tra} {K i t : Nat} (ht : t < i) : fr ts K i (K + t) = (ts.getD t zT).f2.map (·.f0) := by
 unfold fr
 rw [if_neg (by omega), show K + t - K = t by omega, if_pos ht]
section
variable {nm : ByteArray} {ps : List Pla} {ts : List Tra}
/-- An edge of the flow graph. -/
theorem flow_ed (V : ValidN nm ps ts) {u v : Nat} : Ed (flowS true ps ts) u v ↔ (∃ t, t < ts.length ∧ u < ps.length ∧ v = ps.length + t ∧ (u : Int) ∈ (ts.getD t zT).f1.map (·.f0)) ∨ (∃ t, t < ts.length ∧ u = ps.length + t ∧ v < ps.length + ts.length ∧ (v : Int) ∈ (ts.getD t zT).f2.map (·.f0)) := by
 have hl := flow_len (v := true) (ps := ps) (ts := ts) rfl
 unfold Ed
 rw [hl]
 constructor
 · rintro ⟨h1, h2, h3⟩
   rw [flow_row rfl h1] at h3
   by_cases c : u < ps.length
   · obtain ⟨t, ht, e, h⟩ := (fr_place (fun t ht => (V.arcs ht).2.1) c _).1 h3
     exact Or.inl ⟨t, ht, c, by omega, h⟩
   · obtain ⟨t, rfl⟩ : ∃ t, u = ps.length + t := ⟨u - ps.length, by omega⟩
     rw [fr_trans (by omega)] at h3
     exact Or.inr ⟨t, by omega, rfl, h2, h3⟩
 · rintro (⟨t, ht, hu, rfl, h⟩ | ⟨t, ht, rfl, hv, h⟩)
   · refine ⟨by omega, by omega, ?_⟩
     rw [flow_row rfl (by omega)]
     exact (fr_place (fun t ht => (V.arcs ht).2.1) hu _).2 ⟨t, ht, rfl, h⟩
   · refine ⟨by omega, hv, ?_⟩
     rw [flow_row rfl (by omega), fr_trans ht]
     exact h
theorem R_map {g g' : List (List Int)} (h : ∀ u v, Ed g u v → Ed g' u v) (hl : g.length ≤ g'.length) {u v : Nat} (r : R g u v) : R g' u v := by
 obtain ⟨k, r⟩ := r
 have : ∀ k u, Wk g k u v → Wk g' k u v := by
   intro k
   induction k with
   | zero =>
     rintro u ⟨rfl, hu⟩
     exact ⟨rfl, by omega⟩
   | succ k ih =>
     rintro u ⟨w, e, r⟩
     exact ⟨w, h u w e, ih w r⟩
 exact ⟨k, this k u r⟩
theorem R_turn {g : List (List Int)} {u v : Nat} (r : R (rev g) u v) : R g v u := by
 obtain ⟨k, r⟩ := r
 have : ∀ k u, Wk (rev g) k u v → R g v u := by
   intro k
   induction k with
   | zero =>
     rintro u ⟨rfl, hu⟩
     rw [rev_len] at hu
     exact R.refl hu
   | succ k ih =>
     rintro u ⟨w, e, r⟩
     exact (ih w r).trans (R.edge (rev_ed.1 e))
 exact this k u r
variable {a b : Nat}
theorem closed_at {i : Nat} (hi : i < ts.length) : (prepT ts ++ [closeT (a : Int) (b : Int)]).getD i zT = prT (ts.getD i zT) := by
 rw [getD_app, prepT_len, if_neg (by omega), prepT_at hi]
theorem closed_last : (prepT ts ++ [closeT (a : Int) (b : Int)]).getD ts.length zT = closeT (a : Int) (b : Int) := by
 rw [getD_app, prepT_len, if_pos rfl]
theorem closed_len : (prepT ts ++ [closeT (a : Int) (b : Int)]).length = ts.length + 1 := by
 rw [List.length_append, List.length_singleton, prepT_len]
theorem arcs_one {K : Nat} {x : Nat} (hx : x < K) : arcsE (K : Int) [⟨(x : Int), 1⟩] = 0 := by
 refine first_all (fun i hi => ?_)
 obtain rfl : i = 0 := by simp at hi; exact hi
 unfold arcE
 show (if (x : Int) < 0 ∨ (x : Int) ≥ (K : Int) then some 7 else if 0 < 0 ∧ _ then some 8 else if (1 : Int) < 1 ∨ (1 : Int) > 99 then some 9 else none) = none
 rw [if_neg (by omega), if_neg (fun h => absurd h.1 (Nat.lt_irrefl 0)), if_neg (by omega)]
theorem closed_valid (V : ValidN nm ps ts) (s : Int) (ha : a < ps.length) (hb : b < ps.length) (ht : ts.length < 24) (h1 : ¬ transS true ts closeN ≥ 0) (h2 : ¬ placeS true ps closeN ≥ 0) : ValidN nm (prepP s ps) (prepT ts ++ [closeT (a : Int) (b : Int)]) := by
 have W := prep_valid V s
 refine ⟨W.n, W.p0, W.p, by rw [closed_len]; omega, W.pl, fun i hi => ?_⟩
 have hi0 := hi
 rw [closed_len] at hi
 rw [trR_iff hi0]
 by_cases c : i < ts.length
 · have h := (trR_iff (ps := prepP s ps) (ts := prepT ts) (by rw [prepT_len]; exact c)).1 (W.tr i (by rw [prepT_len]; exact c))
   rw [closed_at c]
   rw [prepT_at c] at h
   obtain ⟨g1, g2, g3, g4⟩ := h
   refine ⟨g1, g2, fun j hj => ?_, g4⟩
   have := g3 j hj
   rw [prepT_at (by omega)] at this
   rw [closed_at (by omega)]; exact this
 · obtain rfl : i = ts.length := by omega
   rw [closed_last]
   refine ⟨by show nameB closeN = true; decide, fun j hj => ?_, fun j hj => ?_, ?_⟩
   · rw [prepP_len] at hj
     rw [prepP_at s hj]
     exact placeS_neg h2 j hj
   · rw [closed_at hj]
     exact transS_neg h1 j hj
   · rw [prepP_len]
     unfold transE closeT
     show (if (0 : Int) < 0 ∨ (0 : Int) > 9 then _ else if arcsE (ps.length : Int) [⟨(b : Int), 1⟩] ≠ 0 then _ else if arcsE (ps.length : Int) [⟨(a : Int), 1⟩] ≠ 0 then _ else arcsE (ps.length : Int) []) = 0
     rw [if_neg (by omega), if_neg (by rw [arcs_one hb]; omega), if_neg (by rw [arcs_one ha]; omega)]
     rfl
theorem closed_strong (V : ValidN nm ps ts) (s : Int) (ha : a < ps.length) (hb : b < ps.length) (W : ValidN nm (prepP s ps) (prepT ts ++ [closeT (a : Int) (b : Int)])) (ho : offN (flowS true ps ts) a b (ps.length + ts.length) = []) : oneP (flowS true (prepP s ps) (prepT ts ++ [closeT (a : Int) (b : Int)])) := by
 have hl := flow_len (v := true) (ps := ps) (ts := ts) rfl
 have hl' := flow_len (v := true) (ps := prepP s ps) (ts := prepT ts ++ [closeT (a : Int) (b : Int)]) rfl
 rw [prepP_len, closed_len] at hl'
 have on : ∀ v, v < ps.length + ts.length → R (flowS true ps ts) a v ∧ R (flowS true ps ts) v b := fun v hv => by
   unfold offN at ho
   have := List.filter_eq_nil_iff.1 ho v (List.mem_range.2 hv)
   have h2 : onB (flowS true ps ts) a b v = true := by simpa using this
   obtain ⟨r1, r2⟩ := onB_iff.1 h2
   exact ⟨r1, R_turn r2⟩
 have step : ∀ u v, Ed (flowS true ps ts) u v → Ed (flowS true (prepP s ps) (prepT ts ++ [closeT (a : Int) (b : Int)])) u v := fun u v e => by
   rw [flow_ed W, prepP_len, closed_len]
   rcases (flow_ed V).1 e with ⟨t, ht, h1, h2, h3⟩ | ⟨t, ht, h1, h2, h3⟩
   · exact Or.inl ⟨t, by omega, h1, h2, by rw [closed_at ht]; exact h3⟩
   · exact Or.inr ⟨t, by omega, h1, by omega, by rw [closed_at ht]; exact h3⟩
 have up : ∀ {u v}, R (flowS true ps ts) u v → R (flowS true (prepP s ps) (prepT ts ++ [closeT (a : Int) (b : Int)])) u v := fun r => R_map step (by omega) r
 have e1 : Ed (flowS true (prepP s ps) (prepT ts ++ [closeT (a : Int) (b : Int)])) b (ps.length + ts.length) := by
   rw [flow_ed W, prepP_len, closed_len]
   exact Or.inl ⟨ts.length, by omega, hb, rfl, by rw [closed_last]; exact List.mem_singleton.2 rfl⟩
 have e2 : Ed (flowS true (prepP s ps) (prepT ts ++ [closeT (a : Int) (b : Int)])) (ps.length + ts.length) a := by
   rw [flow_ed W, prepP_len, closed_len]
   exact Or.inr ⟨ts.length, by omega, rfl, by omega, by rw [closed_last]; exact List.mem_singleton.2 rfl⟩
 have hp0 := V.p0
 have z := on 0 (by omega)
 refine ⟨by omega, fun v hv => ?_⟩
 rw [hl'] at hv
 by_cases c : v < ps.length + ts.length
 · have o := on v c
   exact ⟨(up o.2).trans ((R.edge e1).trans ((R.edge e2).trans (up z.1))), (up z.2).trans ((R.edge e1).trans ((R.edge e2).trans (up o.1)))⟩
 · obtain rfl : v = ps.length + ts.length := by omega
   exact ⟨(R.edge e2).trans (up z.1), (up z.2).trans (R.edge e1)⟩
end
end Go.Proofs.Ytnoebjmhimehcaa.Pl
/- What the reference's comparison of nets answers. -/
namespace Go.Proofs.Ytnoebjmhimehcaa.Pl
open Go.RowKit Go.Proofs.Ytnoebjmhimehcaa.P Go.Proofs.YtnoebjmhimehcaaW.PrintWords Go.Proofs.YtnoebjmhimehcaaW.PrintMore

theorem refsameArcs_ev (a b : List Ac) (ha : a.length ≤ 1000000) : Ev (fun k => r09_SameArcs.f k a b) (sameArcsS a b) := by
 unfold r09_SameArcs.f sameArcsS
 by_cases hl : (a.length : Int) = (b.length : Int)
 · simp only [hl, if_true]
   have h := Ev_loop (L := fun k i => r09_SameArcs.l0 k a b (i : Int)) (n := a.length) 1 (fun i => if neA (a.getD i zA) (b.getD i zA) = true then some false else none) (e := true) (fun k i hi => by
     simp only [r09_SameArcs.l0]
     rw [if_pos (by omega), if_pos (by omega), if_pos (by omega), rdA, rdA, wrap_up hi (by omega)]
     by_cases c : neA (a.getD i zA) (b.getD i zA) = true
     · rw [if_pos c]; unfold neA at c; rw [if_pos c]; rfl
     · rw [if_neg c]; unfold neA at c; rw [if_neg c]; rfl) (Ev.one (fun k => by simp only [r09_SameArcs.l0]; rw [if_neg (by omega)]))
   exact h
 · simp only [hl, if_false]; exact Ev.some _
theorem refequal_ev (nm : ByteArray) {ps : List Pla} {ts : List Tra} (nm' : ByteArray) {ps' : List Pla} {ts' : List Tra} (hp : ps.length ≤ 1000000) (ht : ts.length ≤ 1000000) (hT : Thin ts) :
   Ev (fun k => r09_Equal.f k nm ps ts nm' ps' ts') (equalS nm ps ts nm' ps' ts') := by
 have e0 : ∀ k, r09_Equal.f k nm ps ts nm' ps' ts' = r09_Equal.j0 k (!((nm.toList == nm'.toList) && decide ((ps.length : Int) = (ps'.length : Int)) && decide ((ts.length : Int) = (ts'.length : Int)))) nm ps ts nm' ps' ts' := fun k => by
   unfold r09_Equal.f
   by_cases c0 : nm.toList = nm'.toList
   · rw [if_pos c0, beq_iff_eq.2 c0]
     by_cases c1 : (ps.length : Int) = (ps'.length : Int)
     · rw [if_pos c1, decide_eq_true c1]
       by_cases c2 : (ts.length : Int) = (ts'.length : Int)
       · rw [decide_eq_true c2, bne_eq_false_iff_eq.2 c2]; rfl
       · rw [decide_eq_false c2, bne_iff_ne.2 c2]; rfl
     · rw [if_neg c1, decide_eq_false c1]; rfl
   · rw [if_neg c0, beq_eq_false_iff_ne.2 c0]; rfl
 refine Ev.congr e0 ?_
 unfold equalS
 have no : Ev (fun k => r09_Equal.j0 k true nm ps ts nm' ps' ts') false := Ev.one (fun k => by simp only [r09_Equal.j0, ↓reduceIte])
 by_cases c0 : (nm.toList == nm'.toList) = true
 · by_cases c1 : (ps.length : Int) = (ps'.length : Int)
   · by_cases c2 : (ts.length : Int) = (ts'.length : Int)
     · rw [if_pos c0, if_pos c1, if_pos c2, c0, decide_eq_true c1, decide_eq_true c2]
       refine Ev.step (f := fun k => r09_Equal.l0 k ((0 : Nat) : Int) nm ps ts nm' ps' ts') (fun k => by simp only [r09_Equal.j0]; rfl) ?_
       have h1 := Ev_first (L := fun k i => r09_Equal.l1 k (i : Int) nm ps ts nm' ps' ts') (n := ts.length) (fun i => if (!eqT (ts.getD i zT) (ts'.getD i zT)) = true then some false else none) (e := true)
         (fun i hi hb r hr => by
           have hth := hT.at hi
           have ht : eqT (ts.getD i zT) (ts'.getD i zT) = true := by
             cases he : eqT (ts.getD i zT) (ts'.getD i zT) with
             | true => rfl
             | false => rw [he] at hb; cases hb
           refine Ev.stepn 1 (f := fun k => if (ts.getD i zT).f0.toList = (ts'.getD i zT).f0.toList then (if (ts.getD i zT).f4 = (ts'.getD i zT).f4 then ((r09_SameArcs.f k (ts.getD i zT).f1 (ts'.getD i zT).f1).bind fun a => if a = true then ((r09_SameArcs.f k (ts.getD i zT).f2 (ts'.getD i zT).f2).bind fun b => if b = true then ((r09_SameArcs.f k (ts.getD i zT).f3 (ts'.getD i zT).f3).bind fun c => if c = true then r09_Equal.l1 k ((i + 1 : Nat) : Int) nm ps ts nm' ps' ts' else some false) else some false) else some false) else some false) else some false) (fun k => by
             simp only [r09_Equal.l1]
             rw [if_pos (by omega), if_pos (by omega), if_pos (by omega), rdT, rdT, wrap_up hi (by omega)]) ?_
           have hx := eqT_true.1 ht
           rw [← hx]
           generalize ts.getD i zT = x at hth
           simp only [↓reduceIte]
           refine Ev.bind (refsameArcs_ev _ _ hth.2.1) ?_
           rw [sameArcsS_iff.2 rfl]
           simp only [↓reduceIte]
           refine Ev.bind (refsameArcs_ev _ _ hth.2.2.1) ?_
           rw [sameArcsS_iff.2 rfl]
           simp only [↓reduceIte]
           refine Ev.bind (refsameArcs_ev _ _ hth.2.2.2) ?_
           rw [sameArcsS_iff.2 rfl]
           simp only [↓reduceIte]
           exact hr)
         (fun i r hi hb => by
           have hth := hT.at hi
           cases he : eqT (ts.getD i zT) (ts'.getD i zT) with
           | true => rw [he] at hb; cases hb
           | false =>
           rw [he] at hb
           obtain rfl := Option.some.inj hb
           refine Ev.stepn 1 (f := fun k => if (ts.getD i zT).f0.toList = (ts'.getD i zT).f0.toList then (if (ts.getD i zT).f4 = (ts'.getD i zT).f4 then ((r09_SameArcs.f k (ts.getD i zT).f1 (ts'.getD i zT).f1).bind fun a => if a = true then ((r09_SameArcs.f k (ts.getD i zT).f2 (ts'.getD i zT).f2).bind fun b => if b = true then ((r09_SameArcs.f k (ts.getD i zT).f3 (ts'.getD i zT).f3).bind fun c => if c = true then r09_Equal.l1 k ((i + 1 : Nat) : Int) nm ps ts nm' ps' ts' else some false) else some false) else some false) else some false) else some false) (fun k => by
             simp only [r09_Equal.l1]
             rw [if_pos (by omega), if_pos (by omega), if_pos (by omega), rdT, rdT, wrap_up hi (by omega)]) ?_
           generalize ts.getD i zT = x at hth he
           generalize ts'.getD i zT = y at he
           unfold eqT at he
           by_cases d0 : x.f0.toList = y.f0.toList
           · rw [if_pos (beq_iff_eq.2 d0)] at he
             by_cases d4 : x.f4 = y.f4
             · rw [if_pos (beq_iff_eq.2 d4)] at he
               simp only [d0, d4, ↓reduceIte]
               refine Ev.bind (refsameArcs_ev _ _ hth.2.1) ?_
               by_cases d1 : sameArcsS x.f1 y.f1 = true
               · rw [if_pos d1] at he
                 simp only [d1, ↓reduceIte]
                 refine Ev.bind (refsameArcs_ev _ _ hth.2.2.1) ?_
                 by_cases d2 : sameArcsS x.f2 y.f2 = true
                 · rw [if_pos d2] at he
                   simp only [d2, ↓reduceIte]
                   refine Ev.bind (refsameArcs_ev _ _ hth.2.2.2) ?_
                   simp only [he, Bool.false_eq_true, ↓reduceIte]
                   exact Ev.some _
                 · simp only [d2]; exact Ev.some _
               · simp only [d1]; exact Ev.some _
             · simp only [d0, d4, ↓reduceIte]; exact Ev.some _
           · simp only [d0, ↓reduceIte]; exact Ev.some _)
         (Ev.one (fun k => by simp only [r09_Equal.l1]; rw [if_neg (by omega)]))
       exact Ev_loop (L := fun k i => r09_Equal.l0 k (i : Int) nm ps ts nm' ps' ts') (n := ps.length) 1 (fun i => if neP (ps.getD i zP) (ps'.getD i zP) = true then some false else none) (e := first (fun i => if (!eqT (ts.getD i zT) (ts'.getD i zT)) = true then some false else none) true ts.length)
         (fun k i hi => by
           simp only [r09_Equal.l0]
           rw [if_pos (by omega), if_pos (by omega), if_pos (by omega), rdP, rdP, wrap_up hi (by omega)]
           by_cases c : neP (ps.getD i zP) (ps'.getD i zP) = true
           · rw [if_pos c]; unfold neP at c; rw [if_pos c]; rfl
           · rw [if_neg c]; unfold neP at c; rw [if_neg c]; rfl)
         (Ev.step (f := fun k => r09_Equal.l1 k ((0 : Nat) : Int) nm ps ts nm' ps' ts') (fun k => by simp only [r09_Equal.l0]; rw [if_neg (by omega)]; rfl) h1)
     · rw [if_pos c0, if_pos c1, if_neg c2, decide_eq_false c2, Bool.and_false]
       exact no
   · rw [if_pos c0, if_neg c1, decide_eq_false c1, Bool.and_false, Bool.false_and]
     exact no
 · rw [if_neg c0, Bool.eq_false_iff.2 c0, Bool.false_and, Bool.false_and]
   exact no
end Go.Proofs.Ytnoebjmhimehcaa.Pl
/- Rounds laid open one by one. -/
namespace Go.Proofs.Ytnoebjmhimehcaa.Pl
open Go.RowKit Go.Proofs.YtnoebjmhimehcaaW.PrintWords
theorem Ev.up {α : Type} {g : Nat → Option α} {r : α} (h : Ev (fun k => g (k + 1)) r) : Ev g r := Ev.step (fun _ => rfl) h
theorem nn (i : Nat) : 0 ≤ (i : Int) := Int.natCast_nonneg i
theorem lt_int {i n : Nat} (h : i < n) : (i : Int) < (n : Int) := by omega
end Go.Proofs.Ytnoebjmhimehcaa.Pl
namespace Go.Proofs.Ytnoebjmhimehcaa.Pure
set_option linter.unusedVariables false
set_option linter.unusedSimpArgs false
open Go.RowKit Go.Proofs.Ytnoebjmhimehcaa.P Go.Proofs.Ytnoebjmhimehcaa.Pl Go.Proofs.YtnoebjmhimehcaaW.PrintWords
theorem WorkflowCloses (nm : ByteArray) (ps : List Pla) (ts : List Tra) {w : Prop} (_h : w) : ∃ k, petrinetlaw43_WorkflowCloses.f k nm ps ts = some true := by
 refine Ev.rounds (g := fun k => petrinetlaw43_WorkflowCloses.f k nm ps ts) ?_
 unfold petrinetlaw43_WorkflowCloses.f
 refine Ev.bind lives ?_
 simp only [↓reduceIte]
 refine Ev.bind (small_ev nm ps ts) ?_
 cases hs : smallS nm ps ts with
 | false =>
   simp only [smallR, Bool.false_eq_true, ↓reduceIte]
   exact Ev.some _
 | true =>
   have hS := smallS_true hs
   have hT := hS.thin
   have hp := hS.p
   have ht := hS.t
   simp only [smallR, ↓reduceIte]
   refine Ev.bind (close_ev (by omega) (by omega) hT) ?_
   by_cases c : mayS nm ps ts = 0
   · obtain ⟨hv, hpl, a, b, ha, hb, hab, es, et, ho⟩ := may_ends c
     have V := validS_iff.1 hv
     unfold closeS
     rw [if_pos c]
     by_cases c1 : ts.length ≥ 24
     · rw [if_pos c1]
       simp only [show ¬ ((2 : Int) = 0) by omega, ↓reduceIte]
       exact Ev.some _
     · rw [if_neg c1]
       by_cases c2 : transS true ts closeN ≥ 0 ∨ placeS true ps closeN ≥ 0
       · rw [if_pos c2]
         simp only [show ¬ ((6 : Int) = 0) by omega, ↓reduceIte]
         exact Ev.some _
       · rw [if_neg c2, es, et]
         have W := closed_valid (a := a) (b := b) V (a : Int) ha hb (by omega) (fun h => c2 (Or.inl h)) (fun h => c2 (Or.inr h))
         have hstr := closed_strong V (a : Int) ha hb W ho
         have hthin : Thin (prepT ts ++ [closeT (a : Int) (b : Int)]) := fun t ht => by
           rcases List.mem_append.1 ht with h | h
           · exact prep_thin hT t h
           · rw [List.mem_singleton.1 h]; exact ⟨show closeN.size ≤ 1000000 by decide, show 1 ≤ 1000000 by decide, show 1 ≤ 1000000 by decide, Nat.zero_le _⟩
         simp only [↓reduceIte]
         refine Ev.bind (prepare_ev (by omega) (by omega) hT) ?_
         refine Ev.bind (final_ev (by omega) (by omega) hT) ?_
         refine Ev.bind (onlyProducers_ev (by omega) (by omega) hT) ?_
         refine Ev.bind (onlyConsumers_ev (by omega) (by omega) hT) ?_
         have hprep := (prepS_zero c).1
         rw [hv, es] at hprep
         have hfin : finS nm ps ts = (mr ps.length (finF (b : Int)), 0) := by
           unfold finS
           rw [if_pos c, hv, et]
         rw [hprep, hfin, hv, es, et]
         simp only [↓reduceIte]
         refine Ev.bind (is_ev (by omega) (by omega) hT) ?_
         have his : isS nm ps ts = true := by
           rw [isS_eq]
           obtain ⟨_, h2, h3⟩ := prepS_zero c
           exact decide_eq_true ⟨h2, h3⟩
         rw [his]
         simp only [↓reduceIte]
         refine Ev.bind (strong_ev nm hthin) ?_
         have hst : strongS (validS nm (prepP (a : Int) ps) (prepT ts ++ [closeT (a : Int) (b : Int)])) (prepP (a : Int) ps) (prepT ts ++ [closeT (a : Int) (b : Int)]) = true := by
           rw [validS_iff.2 W]
           unfold strongS
           exact dec_t hstr
         rw [hst]
         have hl1 : ((prepT ts ++ [closeT (a : Int) (b : Int)]).length : Int) = wrap64 ((ts.length : Int) + 1) := by
           rw [closed_len, wrap_ok (by omega) (by omega)]; omega
         simp only [↓reduceIte, hl1, prepP_len, mr_len, bne_self_eq_false]
         refine Ev.up ?_
         simp only [petrinetlaw43_WorkflowCloses.j0, Bool.false_eq_true, ↓reduceIte, nn, show (ts.length : Int) < ((prepT ts ++ [closeT (a : Int) (b : Int)]).length : Int) by rw [closed_len]; omega, rdT, closed_last]
         have e0 : (closeT (a : Int) (b : Int)).f0.toList = ([95, 99, 108, 111, 115, 101] : List UInt8) := (by first | kernel_rfl | (simp [closeN, ByteArray.toList, ByteArray.toList.loop] <;> rfl) : closeN.toList = ([95, 99, 108, 111, 115, 101] : List UInt8))
         have e1 : (closeT (a : Int) (b : Int)).f1 = [⟨(b : Int), 1⟩] := rfl
         have e2 : (closeT (a : Int) (b : Int)).f2 = [⟨(a : Int), 1⟩] := rfl
         have r1 : ∀ x : Ac, rd_T55 [x] 0 = x := fun x => rfl
         simp only [e0, e1, e2, List.length_singleton, r1, ↓reduceIte, Int.natCast_one, Int.reduceLT, beq_self_eq_true, Bool.not_true, Bool.or_self, Bool.false_eq_true]
         refine Ev.up ?_
         simp only [petrinetlaw43_WorkflowCloses.j1, Bool.false_eq_true, ↓reduceIte]
         refine Ev_up (L := fun k i => petrinetlaw43_WorkflowCloses.l0 k (mr ps.length (finF (b : Int))) (a : Int) (b : Int) (i : Int) nm ps ts nm (prepP (a : Int) ps) (prepT ts ++ [closeT (a : Int) (b : Int)]) nm (prepP (a : Int) ps) (prepT ts)) (n := ps.length) (fun i hi hr => ?_) ?_
         · refine Ev.up ?_
           have f1 : ((prepP (a : Int) ps).getD i zP).f1 = if (i : Int) = (a : Int) then 1 else 0 := by rw [prepP_at _ hi]; rfl
           have f2 : (mr ps.length (finF (b : Int))).getD i 0 = if (i : Int) = (b : Int) then 1 else 0 := by rw [mr_get _ _ hi]; rfl
           simp only [petrinetlaw43_WorkflowCloses.l0, prepP_len, mr_len, lt_int hi, nn, ↓reduceIte, rdP, rd_nat, f1, f2, wrap_up hi (by omega : ps.length ≤ 9223372036854775807)]
           by_cases d1 : (i : Int) = (a : Int)
           · have d2 : ¬ (i : Int) = (b : Int) := by omega
             have x1 : ((a : Int) == (b : Int)) = false := by rw [beq_eq_false_iff_ne]; omega
             have y1 : ¬ (a : Int) = (b : Int) := by omega
             simp only [d1, d2, ↓reduceIte] at hr ⊢
             simpa [x1, y1] using hr
           · have x1 : ((i : Int) == (a : Int)) = false := by rw [beq_eq_false_iff_ne]; omega
             by_cases d2 : (i : Int) = (b : Int)
             · simp only [d1, d2, ↓reduceIte] at hr ⊢
               rw [d2] at x1
               have y1 : ¬ (b : Int) = (a : Int) := by omega
               simpa [x1, y1] using hr
             · have x2 : ((i : Int) == (b : Int)) = false := by rw [beq_eq_false_iff_ne]; omega
               simp only [d1, d2, ↓reduceIte, x1, x2]
               simp
               exact hr
         · refine Ev.up ?_
           simp only [petrinetlaw43_WorkflowCloses.l0, prepP_len, Int.lt_irrefl, ↓reduceIte, nn, show (ts.length : Int) ≤ ((prepT ts ++ [closeT (a : Int) (b : Int)]).length : Int) by rw [closed_len]; omega, Int.toNat_natCast]
           have e3 : (prepT ts ++ [closeT (a : Int) (b : Int)]).take ts.length = prepT ts := by
             rw [List.take_append_of_le_length (by rw [prepT_len]; exact Nat.le_refl _), List.take_of_length_le (by rw [prepT_len]; exact Nat.le_refl _)]
           rw [e3]
           refine Ev.bind (refequal_ev _ _ (by rw [prepP_len]; omega) (by rw [prepT_len]; omega) (prep_thin hT)) ?_
           rw [equalS_iff.2 ⟨rfl, rfl, rfl⟩]
           exact Ev.some _
   · unfold closeS
     rw [if_neg c]
     simp only [c, ↓reduceIte]
     exact Ev.some _
end Go.Proofs.Ytnoebjmhimehcaa.Pure
