/- The plain law of WorkflowBuilds: for every net the law's function answers true, with rounds enough. -/
-- MERGED: the plain texts that it needs, in one
import Derived.Test.YtnoebjmhimehcaaPx10
import Derived.Test.YtnoebjmhimehcaaPx7
import Derived.Test.YtnoebjmhimehcaaVAll
import Derived.Test.YtnoebjmhimehcaaPx1
import Derived.Test.YtnoebjmhimehcaaPx5
import Derived.Test.YtnoebjmhimehcaaPx6
import Derived.Test.YtnoebjmhimehcaaPx4
import Derived.Test.YtnoebjmhimehcaaPx3
import Derived.Test.YtnoebjmhimehcaaPx2
import Derived.Laws.Strings
import Derived.WideShapes
import Derived.Test.YtnoebjmhimehcaaPx0
/- Plain lemmas: loops that count, lists read and written by whole numbers. -/
namespace Go.Proofs.Ytnoebjmhimehcaa.Pl
open Go.RowKit Go.Proofs.YtnoebjmhimehcaaW.PrintWords Go.Proofs.YtnoebjmhimehcaaW.PrintMore

theorem wrap_ok {x : Int} (h0 : -9223372036854775808 ≤ x) (h1 : x ≤ 9223372036854775807) : wrap64 x = x := by unfold wrap64; omega
theorem wrap_up {i n : Nat} (h : i < n) (hn : n ≤ 9223372036854775807) : wrap64 ((i : Int) + 1) = ((i + 1 : Nat) : Int) := by rw [wrap_ok (by omega) (by omega)]; omega

theorem Ev.uniq {α : Type} {g : Nat → Option α} {a b : α} (h : Ev g a) (k : Ev g b) : a = b := by
 obtain ⟨K, h⟩ := h
 obtain ⟨L, k⟩ := k
 have h1 := h (max K L) (Nat.le_max_left _ _)
 rw [k (max K L) (Nat.le_max_right _ _)] at h1
 exact (Option.some.inj h1).symm
theorem Ev.some {α : Type} (r : α) : Ev (fun _ => Option.some r) r := ⟨0, fun _ _ => rfl⟩
theorem Ev.one {α : Type} {g : Nat → Option α} {r : α} (h : ∀ k, g (k + 1) = Option.some r) : Ev g r := Ev.step h (Ev.some r)

/-- A loop that counts up to n: what is kept. -/
theorem Ev_for {σ ρ : Type} {l : Nat → σ → Int → Option ρ} {n : Nat} {inv : Nat → σ → Prop}
   (step : ∀ (i : Nat) s, i < n → inv i s → ∃ s', inv (i + 1) s' ∧ ∀ r, Ev (fun k => l k s' ((i + 1 : Nat) : Int)) r → Ev (fun k => l k s (i : Int)) r)
   {i : Nat} (hi : i ≤ n) {s : σ} (hs : inv i s) : ∃ s', inv n s' ∧ ∀ r, Ev (fun k => l k s' (n : Int)) r → Ev (fun k => l k s (i : Int)) r := by
 obtain ⟨d, hd⟩ : ∃ d, n - i = d := ⟨_, rfl⟩
 induction d generalizing i s with
 | zero =>
   have : i = n := by omega
   subst this
   exact ⟨s, hs, fun r h => h⟩
 | succ d ih =>
   obtain ⟨s1, h1, k1⟩ := step i s (by omega) hs
   obtain ⟨s2, h2, k2⟩ := ih (by omega) h1 (by omega)
   exact ⟨s2, h2, fun r h => k1 r (k2 r h)⟩



section
variable {α : Type}
theorem rd_nat (xs : List Int) (i : Nat) : rd xs (i : Int) = xs.getD i 0 := by simp [rd]
theorem rdOf_nat (d : α) (xs : List α) (i : Nat) : rdOf d xs (i : Int) = xs.getD i d := by simp [rdOf]
theorem getD_set (xs : List α) (i j : Nat) (x d : α) (h : i < xs.length) : (xs.set i x).getD j d = if j = i then x else xs.getD j d := by
 simp only [List.getD_eq_getElem?_getD, List.getElem?_set]
 by_cases e : i = j
 · subst e; simp [h]
 · simp [e, Ne.symm e]
theorem rdOf_app (d : α) (xs : List α) (x : α) (j : Int) (j0 : 0 ≤ j) : rdOf d (xs ++ [x]) j = if j = xs.length then x else rdOf d xs j := by
 unfold rdOf
 simp only [List.getD_eq_getElem?_getD, List.getElem?_append]
 by_cases e : j = xs.length
 · subst e; simp
 · rw [if_neg e]
   by_cases h : j.toNat < xs.length
   · simp [h]
   · rw [if_neg h]
     have h2 : ¬ j.toNat - xs.length < 1 := by omega
     simp [List.getElem?_eq_none (show ([x] : List α).length ≤ j.toNat - xs.length by simp; omega), List.getElem?_eq_none (show xs.length ≤ j.toNat by omega)]
theorem rd_app (xs : List Int) (x j : Int) (j0 : 0 ≤ j) : rd (xs ++ [x]) j = if j = xs.length then x else rd xs j := rdOf_app (0 : Int) xs x j j0
theorem rd_mem {xs : List Int} {i : Int} (h0 : 0 ≤ i) (h1 : i < xs.length) : rd xs i ∈ xs := by
 unfold rd
 rw [List.getD_eq_getElem?_getD, List.getElem?_eq_getElem (show i.toNat < xs.length by omega)]
 exact List.getElem_mem _
theorem mem_rd {xs : List Int} {x : Int} (h : x ∈ xs) : ∃ i : Nat, i < xs.length ∧ rd xs (i : Int) = x := by
 obtain ⟨i, hi, he⟩ := List.getElem_of_mem h
 exact ⟨i, hi, by rw [rd_nat, List.getD_eq_getElem?_getD, List.getElem?_eq_getElem hi]; exact he⟩
theorem ext_rdOf (d : α) {a b : List α} (hl : a.length = b.length) (h : ∀ i : Nat, i < a.length → rdOf d a (i : Int) = rdOf d b (i : Int)) : a = b := by
 refine List.ext_getElem hl (fun i h1 h2 => ?_)
 have := h i h1
 rw [rdOf_nat, rdOf_nat, List.getD_eq_getElem?_getD, List.getD_eq_getElem?_getD, List.getElem?_eq_getElem h1, List.getElem?_eq_getElem h2] at this
 exact this
end
end Go.Proofs.Ytnoebjmhimehcaa.Pl
/- Plain lemmas: loops that count through a list, the first place that ends them. -/
namespace Go.Proofs.Ytnoebjmhimehcaa.Pl
open Go.RowKit Go.Proofs.YtnoebjmhimehcaaW.PrintWords Go.Proofs.YtnoebjmhimehcaaW.PrintMore

/-- The first answer of p from place i on, through d places; e if there is none. -/
def firstOr {ρ : Type} (p : Nat → Option ρ) (e : ρ) : Nat → Nat → ρ
 | _, 0 => e
 | i, d + 1 => match p i with | some r => r | none => firstOr p e (i + 1) d
theorem firstOr_congr {ρ : Type} {p q : Nat → Option ρ} {e : ρ} : ∀ (d i : Nat), (∀ j, i ≤ j → j < i + d → p j = q j) → firstOr p e i d = firstOr q e i d
 | 0, _, _ => rfl
 | d + 1, i, h => by
   unfold firstOr
   rw [h i (Nat.le_refl _) (by omega)]
   cases q i with
   | some r => rfl
   | none => exact firstOr_congr d (i + 1) (fun j h1 h2 => h j (by omega) (by omega))
theorem firstOr_cases {ρ : Type} (p : Nat → Option ρ) (e : ρ) : ∀ (d i : Nat), (firstOr p e i d = e ∧ ∀ j, i ≤ j → j < i + d → p j = none) ∨ ∃ j, i ≤ j ∧ j < i + d ∧ p j = some (firstOr p e i d) ∧ ∀ m, i ≤ m → m < j → p m = none
 | 0, i => .inl ⟨rfl, fun j h1 h2 => by omega⟩
 | d + 1, i => by
   unfold firstOr
   cases h : p i with
   | some r => exact .inr ⟨i, Nat.le_refl _, by omega, h, fun m h1 h2 => by omega⟩
   | none =>
     rcases firstOr_cases p e d (i + 1) with ⟨h1, h2⟩ | ⟨j, h1, h2, h3, h4⟩
     · refine .inl ⟨h1, fun j j1 j2 => ?_⟩
       by_cases hj : j = i
       · rw [hj]; exact h
       · exact h2 j (by omega) (by omega)
     · refine .inr ⟨j, by omega, by omega, h3, fun m m1 m2 => ?_⟩
       by_cases hm : m = i
       · rw [hm]; exact h
       · exact h4 m (by omega) m2
theorem firstOr_all {ρ : Type} {p : Nat → Option ρ} {e : ρ} : ∀ {d i : Nat}, (∀ j, i ≤ j → j < i + d → p j = none) → firstOr p e i d = e
 | 0, _, _ => rfl
 | d + 1, i, h => by
   unfold firstOr
   rw [h i (Nat.le_refl _) (by omega)]
   exact firstOr_all (fun j h1 h2 => h j (by omega) (by omega))
theorem firstOr_at {ρ : Type} {p : Nat → Option ρ} {e r : ρ} : ∀ {d i : Nat} (j : Nat), i ≤ j → j < i + d → p j = some r → (∀ m, i ≤ m → m < j → p m = none) → firstOr p e i d = r
 | 0, _, _, h1, h2, _, _ => by omega
 | d + 1, i, j, h1, h2, h3, h4 => by
   unfold firstOr
   by_cases hj : j = i
   · subst hj; rw [h3]
   · rw [h4 i (Nat.le_refl _) (by omega)]
     exact firstOr_at j (by omega) (by omega) h3 (fun m m1 m2 => h4 m (by omega) m2)
/-- The first answer of p below n; e if there is none. -/
def first {ρ : Type} (p : Nat → Option ρ) (e : ρ) (n : Nat) : ρ := firstOr p e 0 n
theorem first_congr {ρ : Type} {p q : Nat → Option ρ} {e : ρ} {n : Nat} (h : ∀ j, j < n → p j = q j) : first p e n = first q e n := firstOr_congr n 0 (fun j _ h2 => h j (by omega))
theorem first_cases {ρ : Type} (p : Nat → Option ρ) (e : ρ) (n : Nat) : (first p e n = e ∧ ∀ j, j < n → p j = none) ∨ ∃ j, j < n ∧ p j = some (first p e n) ∧ ∀ m, m < j → p m = none := by
 rcases firstOr_cases p e n 0 with ⟨h1, h2⟩ | ⟨j, _, h2, h3, h4⟩
 · exact .inl ⟨h1, fun j h => h2 j (Nat.zero_le _) (by omega)⟩
 · exact .inr ⟨j, by omega, h3, fun m h => h4 m (Nat.zero_le _) h⟩
theorem first_all {ρ : Type} {p : Nat → Option ρ} {e : ρ} {n : Nat} (h : ∀ j, j < n → p j = none) : first p e n = e := firstOr_all (fun j _ h2 => h j (by omega))
theorem first_at {ρ : Type} {p : Nat → Option ρ} {e r : ρ} {n : Nat} (j : Nat) (h2 : j < n) (h3 : p j = some r) (h4 : ∀ m, m < j → p m = none) : first p e n = r := firstOr_at j (Nat.zero_le _) (by omega) h3 (fun m _ h => h4 m h)

/-- A loop that counts up to n and ends where p answers. -/
theorem Ev_firstFrom {ρ : Type} {L : Nat → Nat → Option ρ} {n : Nat} (p : Nat → Option ρ) {e : ρ}
   (go : ∀ i, i < n → p i = none → ∀ r, Ev (fun k => L k (i + 1)) r → Ev (fun k => L k i) r)
   (stop : ∀ i r, i < n → p i = some r → Ev (fun k => L k i) r) (fin : (∀ j, j < n → p j = none) → Ev (fun k => L k n) e) :
   ∀ (d i : Nat), i + d = n → (∀ j, j < i → p j = none) → Ev (fun k => L k i) (firstOr p e i d) := by
 intro d
 induction d with
 | zero => intro i hi hb; obtain rfl : i = n := by omega
           exact fin hb
 | succ d ih =>
   intro i hi hb
   unfold firstOr
   cases h : p i with
   | some r => exact stop i r (by omega) h
   | none => exact go i (by omega) h _ (ih (i + 1) (by omega) (fun j hj => by
       by_cases e : j = i
       · rw [e]; exact h
       · exact hb j (by omega)))
theorem Ev_first' {ρ : Type} {L : Nat → Nat → Option ρ} {n : Nat} (p : Nat → Option ρ) {e : ρ}
   (go : ∀ i, i < n → p i = none → ∀ r, Ev (fun k => L k (i + 1)) r → Ev (fun k => L k i) r)
   (stop : ∀ i r, i < n → p i = some r → Ev (fun k => L k i) r) (fin : (∀ j, j < n → p j = none) → Ev (fun k => L k n) e) : Ev (fun k => L k 0) (first p e n) :=
 Ev_firstFrom p go stop fin n 0 (by omega) (fun j h => by omega)
theorem Ev_first {ρ : Type} {L : Nat → Nat → Option ρ} {n : Nat} (p : Nat → Option ρ) {e : ρ}
   (go : ∀ i, i < n → p i = none → ∀ r, Ev (fun k => L k (i + 1)) r → Ev (fun k => L k i) r)
   (stop : ∀ i r, i < n → p i = some r → Ev (fun k => L k i) r) (fin : Ev (fun k => L k n) e) : Ev (fun k => L k 0) (first p e n) :=
 Ev_first' p go stop (fun _ => fin)
/-- A loop that counts up to n. -/
theorem Ev_up {ρ : Type} {L : Nat → Nat → Option ρ} {n : Nat} {r : ρ}
   (go : ∀ i, i < n → Ev (fun k => L k (i + 1)) r → Ev (fun k => L k i) r) (fin : Ev (fun k => L k n) r) : Ev (fun k => L k 0) r := by
 have h : ∀ d i, i + d = n → Ev (fun k => L k i) r := by
   intro d
   induction d with
   | zero => intro i hi; obtain rfl : i = n := by omega
             exact fin
   | succ d ih => intro i hi; exact go i (by omega) (ih (i + 1) (by omega))
 exact h n 0 (by omega)

theorem take_map_succ {α β : Type} (l : List α) (f : α → β) (z : α) {i : Nat} (h : i < l.length) : (l.take (i + 1)).map f = (l.take i).map f ++ [f (l.getD i z)] := by
 rw [List.take_succ_eq_append_getElem h, List.map_append, List.getD_eq_getElem?_getD, List.getElem?_eq_getElem h]
 rfl
theorem getD_mem {α : Type} (l : List α) (z : α) {i : Nat} (h : i < l.length) : l.getD i z ∈ l := by
 rw [List.getD_eq_getElem?_getD, List.getElem?_eq_getElem h]
 exact List.getElem_mem h
theorem filter_range_succ (q : Nat → Bool) (i : Nat) : (List.range (i + 1)).filter q = if q i = true then (List.range i).filter q ++ [i] else (List.range i).filter q := by
 rw [List.range_succ, List.filter_append]
 by_cases h : q i = true
 · rw [if_pos h, List.filter_cons_of_pos h]; rfl
 · rw [if_neg h, List.filter_cons_of_neg h]; simp
theorem Ev.stepn {α : Type} {g f : Nat → Option α} {r : α} (m : Nat) (h : ∀ k, g (k + m) = f k) (hf : Ev f r) : Ev g r := by
 obtain ⟨K, hK⟩ := hf
 exact ⟨K + m, fun k hk => by obtain ⟨d, rfl⟩ : ∃ d, k = d + m := ⟨k - m, by omega⟩; rw [h]; exact hK d (by omega)⟩
theorem ite_or {α : Type} (c1 c2 : Prop) [Decidable c1] [Decidable c2] (g : Bool → α) : (if c1 then g true else g (decide c2)) = g (decide (c1 ∨ c2)) := by
 by_cases h : c1
 · rw [if_pos h, decide_eq_true (Or.inl h)]
 · rw [if_neg h]; congr 1; simp [h]
theorem ite_or2 {α : Type} (c1 c2 : Prop) [Decidable c1] [Decidable c2] (a b : α) : (if c1 then a else if c2 then a else b) = if c1 ∨ c2 then a else b := by
 by_cases h : c1
 · rw [if_pos h, if_pos (Or.inl h)]
 · by_cases h2 : c2
   · rw [if_neg h, if_pos h2, if_pos (Or.inr h2)]
   · rw [if_neg h, if_neg h2, if_neg (fun h3 => h3.elim h h2)]
theorem of_ite_none {α : Type} {c : Prop} [Decidable c] {a : α} (h : (if c then none else some a) = none) : c := Classical.byContradiction fun hn => by rw [if_neg hn] at h; cases h
theorem of_ite_some {α : Type} {c : Prop} [Decidable c] {a r : α} (h : (if c then none else some a) = some r) : ¬ c ∧ a = r := by
 by_cases hc : c
 · rw [if_pos hc] at h; cases h
 · rw [if_neg hc] at h; exact ⟨hc, Option.some.inj h⟩
/-- What a round answers: an end, or what follows. -/
def stepO {ρ : Type} (a : Option ρ) (b : Option ρ) : Option ρ := match a with | some r => some r | none => b
/-- A loop whose round is one equation. -/
theorem Ev_loop {ρ : Type} {L : Nat → Nat → Option ρ} {n : Nat} (m : Nat) (p : Nat → Option ρ) {e : ρ}
   (step : ∀ k i, i < n → L (k + m) i = stepO (p i) (L k (i + 1))) (fin : Ev (fun k => L k n) e) : Ev (fun k => L k 0) (first p e n) :=
 Ev_first p (fun i hi hp r hr => Ev.stepn m (fun k => by rw [step k i hi, hp]; rfl) hr) (fun i r hi hp => Ev.stepn m (f := fun _ => some r) (fun k => by rw [step k i hi, hp]; rfl) (Ev.some r)) fin
theorem first_any {ρ : Type} (c : Nat → Prop) [DecidablePred c] (a e : ρ) (n : Nat) : first (fun j => if c j then some a else none) e n = if ∃ j, j < n ∧ c j then a else e := by
 rcases first_cases (fun j => if c j then some a else none) e n with ⟨h1, h2⟩ | ⟨j, h1, h2, h3⟩
 · rw [h1, if_neg]
   rintro ⟨j, hj, hc⟩
   have := h2 j hj
   simp [hc] at this
 · have hc : c j := by
     refine Classical.byContradiction fun hn => ?_
     simp [hn] at h2
   rw [if_pos ⟨j, h1, hc⟩]
   simp [hc] at h2
   exact h2.symm
theorem any_take {α β : Type} (l : List α) (f : α → β) (q : β → Bool) (z : α) {i : Nat} (hi : i ≤ l.length) : ((l.take i).map f).any q = true ↔ ∃ j, j < i ∧ q (f (l.getD j z)) = true := by
 rw [List.any_eq_true]
 constructor
 · rintro ⟨x, hx, hq⟩
   obtain ⟨y, hy, rfl⟩ := List.mem_map.1 hx
   obtain ⟨j, hj, rfl⟩ := List.getElem_of_mem hy
   rw [List.length_take] at hj
   refine ⟨j, by omega, ?_⟩
   rw [List.getElem_take] at hq
   rw [List.getD_eq_getElem?_getD, List.getElem?_eq_getElem (by omega)]
   exact hq
 · rintro ⟨j, hj, hq⟩
   refine ⟨f (l.getD j z), List.mem_map.2 ⟨l.getD j z, ?_, rfl⟩, hq⟩
   rw [List.getD_eq_getElem?_getD, List.getElem?_eq_getElem (by omega)]
   exact List.mem_take_iff_getElem.2 ⟨j, by omega, rfl⟩
theorem any_all {α β : Type} (l : List α) (f : α → β) (q : β → Bool) (z : α) : (l.map f).any q = true ↔ ∃ j, j < l.length ∧ q (f (l.getD j z)) = true := by
 have := any_take l f q z (Nat.le_refl l.length)
 rwa [List.take_length] at this
end Go.Proofs.Ytnoebjmhimehcaa.Pl
/- The check of fixed results of chapter 43. -/
namespace Go.Proofs.Ytnoebjmhimehcaa.Pure
open Go.RowKit Go.Proofs.Ytnoebjmhimehcaa.P Go.Proofs.Ytnoebjmhimehcaa.Pl Go.Proofs.YtnoebjmhimehcaaW.PrintWords
theorem lives : Ev (fun k => petrinetlaw43_lives.f k) true := Ev.of (fun k => petrinetlaw43_lives.mono k) (k := 60) (by decide +kernel)
theorem lives' : Ev (fun k => (petrinetlaw43_lives.f k).bind fun t => some t) true := Ev.bind lives (Ev.some _)
end Go.Proofs.Ytnoebjmhimehcaa.Pure
/- What a net's check answers, told plainly; and that the program's check answers it. -/
namespace Go.Proofs.Ytnoebjmhimehcaa.Pl
open Go.RowKit Go.Proofs.Ytnoebjmhimehcaa.P Go.Proofs.YtnoebjmhimehcaaW.PrintWords Go.Proofs.YtnoebjmhimehcaaW.PrintMore

abbrev Pla := S52
abbrev Tra := S48
abbrev Ac := S55
abbrev zP : Pla := z52
abbrev zT : Tra := z48
abbrev zA : Ac := z55
theorem rdP (xs : List Pla) (i : Nat) : rd_T52 xs (i : Int) = xs.getD i zP := by simp [rd_T52]
theorem rdT (xs : List Tra) (i : Nat) : rd_T48 xs (i : Int) = xs.getD i zT := by simp [rd_T48]
theorem rdA (xs : List Ac) (i : Nat) : rd_T55 xs (i : Int) = xs.getD i zA := by simp [rd_T55]
theorem rdAs (xs : List (List Ac)) (i : Nat) : rd_L4 xs (i : Int) = xs.getD i [] := by simp [rd_L4]

/-! ### arcs -/
def arcE (np : Int) (l : List Ac) (i : Nat) : Option Int :=
 if (l.getD i zA).f0 < 0 ∨ (l.getD i zA).f0 ≥ np then some 7 else if 0 < i ∧ (l.getD (i - 1) zA).f0 ≥ (l.getD i zA).f0 then some 8 else if (l.getD i zA).f1 < 1 ∨ (l.getD i zA).f1 > 99 then some 9 else none
def arcsE (np : Int) (l : List Ac) : Int := first (arcE np l) 0 l.length
theorem checkArcs_step (k : Nat) (l : List Ac) (np : Int) (i : Nat) (hi : i < l.length) (hl : l.length ≤ 1000000) :
   net_checkArcs.l0 (k + 3) l np l (l.length : Int) (i : Int) = stepO (arcE np l i) (net_checkArcs.l0 k l np l (l.length : Int) ((i + 1 : Nat) : Int)) := by
 simp only [net_checkArcs.l0]
 rw [if_pos (by omega), if_pos (by omega), if_pos (by omega), rdA, ite_or _ _ (fun b => net_checkArcs.j1 (k + 2) l np (i : Int) l (l.length : Int) (i : Int) b (l.getD i zA).f0 (l.getD i zA).f1)]
 unfold arcE
 by_cases c1 : (l.getD i zA).f0 < 0 ∨ (l.getD i zA).f0 ≥ np
 · rw [decide_eq_true c1, if_pos c1]; simp only [net_checkArcs.j1, ↓reduceIte, stepO]
 · rw [decide_eq_false c1, if_neg c1]
   have e2 : ∀ b : Bool, net_checkArcs.j2 (k + 1) l np l (l.length : Int) (i : Int) b (l.getD i zA).f0 (l.getD i zA).f1 = if b = true then some 8 else if (l.getD i zA).f1 < 1 ∨ (l.getD i zA).f1 > 99 then some 9 else net_checkArcs.l0 k l np l (l.length : Int) ((i + 1 : Nat) : Int) := by
     intro b
     simp only [net_checkArcs.j2]
     rw [wrap_up hi (by omega), ite_or2]
   simp only [net_checkArcs.j1]
   rw [if_neg Bool.false_ne_true]
   by_cases c2 : 0 < i
   · rw [if_pos (by omega), if_pos (by rw [wrap_ok (by omega) (by omega)]; omega), if_pos (by rw [wrap_ok (by omega) (by omega)]; omega), wrap_ok (x := (i : Int) - 1) (by omega) (by omega), show ((i : Int) - 1) = ((i - 1 : Nat) : Int) by omega, rdA, e2]
     by_cases c3 : (l.getD (i - 1) zA).f0 ≥ (l.getD i zA).f0
     · rw [decide_eq_true c3, if_pos rfl, if_pos ⟨c2, c3⟩]; rfl
     · rw [decide_eq_false c3, if_neg Bool.false_ne_true, if_neg (show ¬ (0 < i ∧ (l.getD (i - 1) zA).f0 ≥ (l.getD i zA).f0) from fun h => c3 h.2)]
       by_cases d : (l.getD i zA).f1 < 1 ∨ (l.getD i zA).f1 > 99
       · rw [if_pos d, if_pos d]; rfl
       · rw [if_neg d, if_neg d]; rfl
   · rw [if_neg (by omega), e2, if_neg Bool.false_ne_true, if_neg (show ¬ (0 < i ∧ (l.getD (i - 1) zA).f0 ≥ (l.getD i zA).f0) from fun h => c2 h.1)]
     by_cases d : (l.getD i zA).f1 < 1 ∨ (l.getD i zA).f1 > 99
     · rw [if_pos d, if_pos d]; rfl
     · rw [if_neg d, if_neg d]; rfl
theorem checkArcs_ev (l : List Ac) (np : Int) (hl : l.length ≤ 1000000) : Ev (fun k => net_checkArcs.f k l np) (arcsE np l) :=
 Ev_loop (L := fun k i => net_checkArcs.l0 k l np l (l.length : Int) (i : Int)) 3 (arcE np l) (fun k i hi => checkArcs_step k l np i hi hl)
   (Ev.one (fun k => by simp only [net_checkArcs.l0]; rw [if_neg (by omega)]))

/-! ### a transition -/
def transE (np : Int) (t : Tra) : Int := if t.f4 < 0 ∨ t.f4 > 9 then 1 else if arcsE np t.f1 ≠ 0 then arcsE np t.f1 else if arcsE np t.f2 ≠ 0 then arcsE np t.f2 else arcsE np t.f3
def ThinT (t : Tra) : Prop := t.f0.size ≤ 1000000 ∧ t.f1.length ≤ 1000000 ∧ t.f2.length ≤ 1000000 ∧ t.f3.length ≤ 1000000
theorem checkTrans_ev (t : Tra) (np : Int) (ht : ThinT t) : Ev (fun k => net_checkTrans.f k t.f0 t.f1 t.f2 t.f3 t.f4 np) (transE np t) := by
 have e0 : ∀ k, net_checkTrans.f k t.f0 t.f1 t.f2 t.f3 t.f4 np = net_checkTrans.j0 k np (decide (t.f4 < 0 ∨ t.f4 > 9)) t.f0 t.f1 t.f2 t.f3 t.f4 := fun k => by
   unfold net_checkTrans.f
   exact ite_or _ _ (fun b => net_checkTrans.j0 k np b t.f0 t.f1 t.f2 t.f3 t.f4)
 refine Ev.congr e0 ?_
 unfold transE
 by_cases c : t.f4 < 0 ∨ t.f4 > 9
 · rw [decide_eq_true c, if_pos c]
   exact Ev.one (fun k => by simp only [net_checkTrans.j0, ↓reduceIte])
 · rw [decide_eq_false c, if_neg c]
   refine Ev.step (f := fun k => net_checkTrans.l0 k np [t.f1, t.f2, t.f3] 3 ((0 : Nat) : Int)) (fun k => by simp only [net_checkTrans.j0]; rw [if_neg Bool.false_ne_true]; rfl) ?_
   have hm : ∀ i, i < 3 → ([t.f1, t.f2, t.f3].getD i []).length ≤ 1000000 := fun i hi => by
     obtain ⟨_, h1, h2, h3⟩ := ht
     rcases i with _ | _ | _ | i
     · exact h1
     · exact h2
     · exact h3
     · omega
   have h := Ev_first (L := fun k i => net_checkTrans.l0 k np [t.f1, t.f2, t.f3] 3 (i : Int)) (n := 3) (fun i => if arcsE np ([t.f1, t.f2, t.f3].getD i []) = 0 then none else some (arcsE np ([t.f1, t.f2, t.f3].getD i []))) (e := 0)
     (fun i hi hp r hr => Ev.step (f := fun k => (net_checkArcs.f k ([t.f1, t.f2, t.f3].getD i []) np).bind fun e => if e = 0 then net_checkTrans.l0 k np [t.f1, t.f2, t.f3] 3 ((i + 1 : Nat) : Int) else some e) (fun k => by
       simp only [net_checkTrans.l0]
       rw [if_pos (by omega), if_pos (by omega), if_pos (by simp only [List.length_cons, List.length_nil]; omega), rdAs, wrap_up hi (by omega)]) (by
         refine Ev.bind (checkArcs_ev _ np (hm i hi)) ?_
         have h0 : arcsE np ([t.f1, t.f2, t.f3].getD i []) = 0 := of_ite_none hp
         simp only [h0, ↓reduceIte]
         exact hr))
     (fun i r hi hp => Ev.step (f := fun k => (net_checkArcs.f k ([t.f1, t.f2, t.f3].getD i []) np).bind fun e => if e = 0 then net_checkTrans.l0 k np [t.f1, t.f2, t.f3] 3 ((i + 1 : Nat) : Int) else some e) (fun k => by
       simp only [net_checkTrans.l0]
       rw [if_pos (by omega), if_pos (by omega), if_pos (by simp only [List.length_cons, List.length_nil]; omega), rdAs, wrap_up hi (by omega)]) (by
         refine Ev.bind (checkArcs_ev _ np (hm i hi)) ?_
         obtain ⟨h0, rfl⟩ := of_ite_some hp
         simp only [h0, ↓reduceIte]
         exact Ev.some _))
     (Ev.one (fun k => by simp only [net_checkTrans.l0]; rw [if_neg (by omega)]))
   have e3 : first (fun i => if arcsE np ([t.f1, t.f2, t.f3].getD i []) = 0 then none else some (arcsE np ([t.f1, t.f2, t.f3].getD i []))) 0 3 = if arcsE np t.f1 ≠ 0 then arcsE np t.f1 else if arcsE np t.f2 ≠ 0 then arcsE np t.f2 else arcsE np t.f3 := by
     unfold first firstOr firstOr firstOr firstOr
     simp only [List.getD_cons_zero, List.getD_cons_succ]
     by_cases h1 : arcsE np t.f1 = 0
     · by_cases h2 : arcsE np t.f2 = 0
       · by_cases h3 : arcsE np t.f3 = 0 <;> simp [h1, h2, h3]
       · simp [h1, h2]
     · simp [h1]
   rw [← e3]
   exact h

/-! ### the check -/
def nmE (ns : List ByteArray) (s : ByteArray) : Int := if nameB s = true then (if (ns.any fun o => o.toList == s.toList) = true then 6 else 0) else 5
def plR (ps : List Pla) (i : Nat) : Int := if nmE ((ps.take i).map (·.f0)) (ps.getD i zP).f0 ≠ 0 then nmE ((ps.take i).map (·.f0)) (ps.getD i zP).f0 else placeE (ps.getD i zP).f1 (ps.getD i zP).f2
def trR (ps : List Pla) (ts : List Tra) (i : Nat) : Int := if nmE (ps.map (·.f0) ++ (ts.take i).map (·.f0)) (ts.getD i zT).f0 ≠ 0 then nmE (ps.map (·.f0) ++ (ts.take i).map (·.f0)) (ts.getD i zT).f0 else transE (ps.length : Int) (ts.getD i zT)
def pF (ps : List Pla) (i : Nat) : Option (Int × Int) := if plR ps i = 0 then none else some (plR ps i, (i : Int))
def tF (ps : List Pla) (ts : List Tra) (i : Nat) : Option (Int × Int) := if trR ps ts i = 0 then none else some (trR ps ts i, (ps.length : Int) + (i : Int))
def checkS (nm : ByteArray) (ps : List Pla) (ts : List Tra) : Int × Int :=
 if nameB nm = true then (if (ps.length : Int) < 1 ∨ (24 : Int) < (ps.length : Int) ∨ (24 : Int) < (ts.length : Int) then (2, 0) else first (pF ps) (first (tF ps ts) (0, 0) ts.length) ps.length) else (5, 0)
def validS (nm : ByteArray) (ps : List Pla) (ts : List Tra) : Bool := (checkS nm ps ts).1 == 0
/-- What is asked of a net's size for its parts to be told. -/
def Thin (ts : List Tra) : Prop := ∀ t ∈ ts, ThinT t
theorem Thin.at {ts : List Tra} (h : Thin ts) {i : Nat} (hi : i < ts.length) : ThinT (ts.getD i zT) := h _ (getD_mem ts zT hi)
theorem addM_ev {ns : List ByteArray} {s : ByteArray} (h : ns.length < 1000000) : addM ns s = some (nmE ns s, if nmE ns s = 0 then ns ++ [s] else ns) := by
 unfold addM nmE
 by_cases h1 : nameB s = true
 · by_cases h2 : (ns.any fun o => o.toList == s.toList) = true
   · simp [h1, h2]
   · rw [if_pos h1, if_neg h2, if_pos h, if_pos h1, if_neg h2]; simp
 · simp [h1]
theorem check_ts {ps : List Pla} {ts : List Tra} (hp : ps.length ≤ 24) (ht : ts.length ≤ 24) (hT : Thin ts) : Ev (fun k => net_Check.l1 k ps ts (ps.map (·.f0)) 0) (first (tF ps ts) (0, 0) ts.length) := by
 have hlen : ∀ i, i ≤ ts.length → (ps.map (·.f0) ++ (ts.take i).map (·.f0)).length < 1000000 := fun i hi => by simp only [List.length_append, List.length_map, List.length_take]; omega
 have stp : ∀ i, i < ts.length → ∀ k, net_Check.l1 (k + 1) ps ts (ps.map (·.f0) ++ (ts.take i).map (·.f0)) (i : Int) = if nmE (ps.map (·.f0) ++ (ts.take i).map (·.f0)) (ts.getD i zT).f0 = 0 then ((net_checkTrans.f k (ts.getD i zT).f0 (ts.getD i zT).f1 (ts.getD i zT).f2 (ts.getD i zT).f3 (ts.getD i zT).f4 (ps.length : Int)).bind fun e => if e = 0 then net_Check.l1 k ps ts (ps.map (·.f0) ++ (ts.take (i + 1)).map (·.f0)) ((i + 1 : Nat) : Int) else some (e, (ps.length : Int) + (i : Int))) else some (nmE (ps.map (·.f0) ++ (ts.take i).map (·.f0)) (ts.getD i zT).f0, (ps.length : Int) + (i : Int)) := fun i hi k => by
   simp only [net_Check.l1]
   rw [if_pos (by omega), if_pos (by omega), rdT, addM_ev (hlen i (by omega)), wrap_up hi (by omega), wrap_ok (x := (ps.length : Int) + (i : Int)) (by omega) (by omega)]
   simp only [Option.bind_some]
   by_cases h0 : nmE (ps.map (·.f0) ++ (ts.take i).map (·.f0)) (ts.getD i zT).f0 = 0
   · rw [if_pos h0, if_pos h0, if_pos h0, List.append_assoc, ← take_map_succ ts (fun t => t.f0) zT hi]
   · rw [if_neg h0, if_neg h0]
 have h := Ev_first (L := fun k i => net_Check.l1 k ps ts (ps.map (·.f0) ++ (ts.take i).map (·.f0)) (i : Int)) (n := ts.length) (tF ps ts) (e := ((0 : Int), (0 : Int)))
   (fun i hi hf r hr => Ev.step (stp i hi) (by
     have hz : trR ps ts i = 0 := of_ite_none hf
     by_cases h0 : nmE (ps.map (·.f0) ++ (ts.take i).map (·.f0)) (ts.getD i zT).f0 = 0
     · unfold trR at hz
       rw [if_neg (by simpa using h0)] at hz
       simp only [h0, ↓reduceIte]
       refine Ev.bind (checkTrans_ev _ _ (hT.at hi)) ?_
       simp only [hz, ↓reduceIte]
       exact hr
     · unfold trR at hz
       rw [if_pos h0] at hz
       exact absurd hz h0))
   (fun i r hi hf => Ev.step (stp i hi) (by
     obtain ⟨hz, rfl⟩ := of_ite_some hf
     by_cases h0 : nmE (ps.map (·.f0) ++ (ts.take i).map (·.f0)) (ts.getD i zT).f0 = 0
     · have e : trR ps ts i = transE (ps.length : Int) (ts.getD i zT) := by unfold trR; rw [if_neg (by simpa using h0)]
       rw [e] at hz ⊢
       simp only [h0, ↓reduceIte]
       refine Ev.bind (checkTrans_ev _ _ (hT.at hi)) ?_
       simp only [hz, ↓reduceIte]
       exact Ev.some _
     · have e : trR ps ts i = nmE (ps.map (·.f0) ++ (ts.take i).map (·.f0)) (ts.getD i zT).f0 := by unfold trR; rw [if_pos h0]
       rw [e]
       simp only [h0, ↓reduceIte]
       exact Ev.some _))
   (Ev.one (fun k => by simp only [net_Check.l1]; rw [if_neg (by omega)]))
 simpa using h
theorem check_ps {ps : List Pla} {ts : List Tra} (hp : ps.length ≤ 24) (ht : ts.length ≤ 24) (hT : Thin ts) : Ev (fun k => net_Check.l0 k ps ts [] 0) (first (pF ps) (first (tF ps ts) (0, 0) ts.length) ps.length) := by
 have hlen : ∀ i, i ≤ ps.length → ((ps.take i).map (·.f0)).length < 1000000 := fun i hi => by simp only [List.length_map, List.length_take]; omega
 have stp : ∀ i, i < ps.length → ∀ k, net_Check.l0 (k + 1) ps ts ((ps.take i).map (·.f0)) (i : Int) = if nmE ((ps.take i).map (·.f0)) (ps.getD i zP).f0 = 0 then (if placeE (ps.getD i zP).f1 (ps.getD i zP).f2 = 0 then net_Check.l0 k ps ts ((ps.take (i + 1)).map (·.f0)) ((i + 1 : Nat) : Int) else some (placeE (ps.getD i zP).f1 (ps.getD i zP).f2, (i : Int))) else some (nmE ((ps.take i).map (·.f0)) (ps.getD i zP).f0, (i : Int)) := fun i hi k => by
   simp only [net_Check.l0]
   rw [if_pos (by omega), if_pos (by omega), rdP, addM_ev (hlen i (by omega)), wrap_up hi (by omega)]
   simp only [Option.bind_some, net_checkPlace.f]
   by_cases h0 : nmE ((ps.take i).map (·.f0)) (ps.getD i zP).f0 = 0
   · rw [if_pos h0, if_pos h0, if_pos h0, ← take_map_succ ps (fun t => t.f0) zP hi]
   · rw [if_neg h0, if_neg h0]
 have h := Ev_first (L := fun k i => net_Check.l0 k ps ts ((ps.take i).map (·.f0)) (i : Int)) (n := ps.length) (pF ps) (e := first (tF ps ts) (0, 0) ts.length)
   (fun i hi hf r hr => Ev.step (stp i hi) (by
     have hz : plR ps i = 0 := of_ite_none hf
     by_cases h0 : nmE ((ps.take i).map (·.f0)) (ps.getD i zP).f0 = 0
     · unfold plR at hz
       rw [if_neg (by simpa using h0)] at hz
       simp only [h0, hz, ↓reduceIte]
       exact hr
     · unfold plR at hz
       rw [if_pos h0] at hz
       exact absurd hz h0))
   (fun i r hi hf => Ev.step (stp i hi) (by
     obtain ⟨hz, rfl⟩ := of_ite_some hf
     by_cases h0 : nmE ((ps.take i).map (·.f0)) (ps.getD i zP).f0 = 0
     · have e : plR ps i = placeE (ps.getD i zP).f1 (ps.getD i zP).f2 := by unfold plR; rw [if_neg (by simpa using h0)]
       rw [e] at hz ⊢
       simp only [h0, hz, ↓reduceIte]
       exact Ev.some _
     · have e : plR ps i = nmE ((ps.take i).map (·.f0)) (ps.getD i zP).f0 := by unfold plR; rw [if_pos h0]
       rw [e]
       simp only [h0, ↓reduceIte]
       exact Ev.some _))
   (by
     refine Ev.step (f := fun k => net_Check.l1 k ps ts (ps.map (·.f0)) 0) (fun k => ?_) (check_ts hp ht hT)
     simp only [net_Check.l0]
     rw [if_neg (by omega), List.take_length])
 simpa using h
theorem check_ev (nm : ByteArray) {ps : List Pla} {ts : List Tra} (hT : Thin ts) : Ev (fun k => net_Check.f k nm ps ts) (checkS nm ps ts) := by
 unfold net_Check.f checkS
 by_cases h1 : nameB nm = true
 · by_cases h2 : (ps.length : Int) < 1 ∨ (24 : Int) < (ps.length : Int) ∨ (24 : Int) < (ts.length : Int)
   · simp only [h1, h2, ↓reduceIte]; exact Ev.some _
   · simp only [h1, h2, ↓reduceIte]
     exact check_ps (by omega) (by omega) hT
 · simp only [h1]; exact Ev.some _
theorem valid_ev (nm : ByteArray) {ps : List Pla} {ts : List Tra} (hT : Thin ts) : Ev (fun k => net_valid.f k nm ps ts) (validS nm ps ts) := by
 unfold net_valid.f
 exact Ev.bind (check_ev nm hT) (Ev.some _)
end Go.Proofs.Ytnoebjmhimehcaa.Pl
/- The small nets. -/
namespace Go.Proofs.Ytnoebjmhimehcaa.Pl
open Go.RowKit Go.Proofs.Ytnoebjmhimehcaa.P Go.Proofs.YtnoebjmhimehcaaW.PrintWords Go.Proofs.YtnoebjmhimehcaaW.PrintMore

def smT (t : Tra) : Option Bool := if (t.f0.size : Int) > 20 ∨ (t.f1.length : Int) > 26 ∨ (t.f2.length : Int) > 26 ∨ (t.f3.length : Int) > 26 then some false else none
def smP (p : Pla) : Option Bool := if (p.f0.size : Int) > 20 then some false else none
def smallS (nm : ByteArray) (ps : List Pla) (ts : List Tra) : Bool :=
 if (ps.length : Int) > 26 ∨ (ts.length : Int) > 26 ∨ (nm.size : Int) > 20 then false else first (fun i => smP (ps.getD i zP)) (first (fun i => smT (ts.getD i zT)) true ts.length) ps.length
structure SmallN (nm : ByteArray) (ps : List Pla) (ts : List Tra) : Prop where
 p : ps.length ≤ 26
 t : ts.length ≤ 26
 n : nm.size ≤ 20
 pn : ∀ i, i < ps.length → (ps.getD i zP).f0.size ≤ 20
 tn : ∀ i, i < ts.length → (ts.getD i zT).f0.size ≤ 20 ∧ (ts.getD i zT).f1.length ≤ 26 ∧ (ts.getD i zT).f2.length ≤ 26 ∧ (ts.getD i zT).f3.length ≤ 26
theorem smallS_true {nm : ByteArray} {ps : List Pla} {ts : List Tra} (h : smallS nm ps ts = true) : SmallN nm ps ts := by
 unfold smallS at h
 by_cases c : (ps.length : Int) > 26 ∨ (ts.length : Int) > 26 ∨ (nm.size : Int) > 20
 · rw [if_pos c] at h; cases h
 · rw [if_neg c] at h
   rcases first_cases (fun i => smP (ps.getD i zP)) (first (fun i => smT (ts.getD i zT)) true ts.length) ps.length with ⟨h1, h2⟩ | ⟨j, h1, h2, _⟩
   · rw [h1] at h
     rcases first_cases (fun i => smT (ts.getD i zT)) true ts.length with ⟨k1, k2⟩ | ⟨j, k1, k2, _⟩
     · refine ⟨by omega, by omega, by omega, fun i hi => ?_, fun i hi => ?_⟩
       · have := h2 i hi
         unfold smP at this
         by_cases d : ((ps.getD i zP).f0.size : Int) > 20
         · rw [if_pos d] at this; cases this
         · omega
       · have := k2 i hi
         unfold smT at this
         by_cases d : ((ts.getD i zT).f0.size : Int) > 20 ∨ ((ts.getD i zT).f1.length : Int) > 26 ∨ ((ts.getD i zT).f2.length : Int) > 26 ∨ ((ts.getD i zT).f3.length : Int) > 26
         · rw [if_pos d] at this; cases this
         · omega
     · rw [h] at k2
       unfold smT at k2
       by_cases d : ((ts.getD j zT).f0.size : Int) > 20 ∨ ((ts.getD j zT).f1.length : Int) > 26 ∨ ((ts.getD j zT).f2.length : Int) > 26 ∨ ((ts.getD j zT).f3.length : Int) > 26
       · rw [if_pos d] at k2; cases k2
       · rw [if_neg d] at k2; cases k2
   · rw [h] at h2
     unfold smP at h2
     by_cases d : ((ps.getD j zP).f0.size : Int) > 20
     · rw [if_pos d] at h2; cases h2
     · rw [if_neg d] at h2; cases h2
theorem SmallN.thin {nm : ByteArray} {ps : List Pla} {ts : List Tra} (h : SmallN nm ps ts) : Thin ts := fun t ht => by
 obtain ⟨i, hi, rfl⟩ := List.getElem_of_mem ht
 have := h.tn i hi
 rw [List.getD_eq_getElem?_getD, List.getElem?_eq_getElem hi] at this
 obtain ⟨a, b, c, d⟩ := this
 exact ⟨Nat.le_trans a (by decide), Nat.le_trans b (by decide), Nat.le_trans c (by decide), Nat.le_trans d (by decide)⟩
def smallR (b : Bool) (nm : ByteArray) (ps : List Pla) (ts : List Tra) : ByteArray × List Pla × List Tra × Bool := if b = true then (nm, ps, ts, true) else (⟨#[]⟩, [], [], false)
theorem first_map {α β : Type} (f : α → β) (p : Nat → Option α) (e : α) (n : Nat) : first (fun i => (p i).map f) (f e) n = f (first p e n) := by
 rcases first_cases p e n with ⟨h1, h2⟩ | ⟨j, h1, h2, h3⟩
 · rw [h1]; exact first_all (fun j hj => by rw [h2 j hj]; rfl)
 · exact first_at j h1 (by rw [h2]; rfl) (fun m hm => by rw [h3 m hm]; rfl)
theorem small_ev (nm : ByteArray) (ps : List Pla) (ts : List Tra) : Ev (fun k => r09_Small.f k nm ps ts) (smallR (smallS nm ps ts) nm ps ts) := by
 have e0 : ∀ k, r09_Small.f k nm ps ts = r09_Small.j0 k (decide ((ps.length : Int) > 26 ∨ (ts.length : Int) > 26 ∨ (nm.size : Int) > 20)) nm ps ts := fun k => by
   unfold r09_Small.f
   rw [ite_or ((ts.length : Int) > 26) _ (fun b => r09_Small.j0 k b nm ps ts)]
   exact ite_or _ _ (fun b => r09_Small.j0 k b nm ps ts)
 refine Ev.congr e0 ?_
 unfold smallS
 by_cases c : (ps.length : Int) > 26 ∨ (ts.length : Int) > 26 ∨ (nm.size : Int) > 20
 · rw [decide_eq_true c, if_pos c]
   exact Ev.one (fun k => by simp only [r09_Small.j0, ↓reduceIte]; rfl)
 · rw [decide_eq_false c, if_neg c]
   refine Ev.step (f := fun k => r09_Small.l0 k ((0 : Nat) : Int) nm ps ts) (fun k => by simp only [r09_Small.j0]; rw [if_neg Bool.false_ne_true]; rfl) ?_
   have ht := Ev_loop (L := fun k i => r09_Small.l1 k (i : Int) nm ps ts) (n := ts.length) 1 (fun i => (smT (ts.getD i zT)).map (fun b => smallR b nm ps ts)) (e := smallR true nm ps ts)
     (fun k i hi => by
       simp only [r09_Small.l1]
       rw [if_pos (by omega), if_pos (by omega), rdT, wrap_up hi (by omega), ite_or2, ite_or2, ite_or2]
       unfold smT
       by_cases d : ((ts.getD i zT).f0.size : Int) > 20 ∨ ((ts.getD i zT).f1.length : Int) > 26 ∨ ((ts.getD i zT).f2.length : Int) > 26 ∨ ((ts.getD i zT).f3.length : Int) > 26
       · rw [if_pos d, if_pos (by omega)]; rfl
       · rw [if_neg d, if_neg (by omega)]; rfl)
     (Ev.one (fun k => by simp only [r09_Small.l1]; rw [if_neg (by omega)]; rfl))
   have hp := Ev_loop (L := fun k i => r09_Small.l0 k (i : Int) nm ps ts) (n := ps.length) 1 (fun i => (smP (ps.getD i zP)).map (fun b => smallR b nm ps ts)) (e := first (fun i => (smT (ts.getD i zT)).map (fun b => smallR b nm ps ts)) (smallR true nm ps ts) ts.length)
     (fun k i hi => by
       simp only [r09_Small.l0]
       rw [if_pos (by omega), if_pos (by omega), rdP, wrap_up hi (by omega)]
       unfold smP
       by_cases d : ((ps.getD i zP).f0.size : Int) > 20
       · rw [if_pos d, if_pos d]; rfl
       · rw [if_neg d, if_neg d]; rfl)
     (Ev.step (f := fun k => r09_Small.l1 k ((0 : Nat) : Int) nm ps ts) (fun k => by simp only [r09_Small.l0]; rw [if_neg (by omega)]; rfl) ht)
   rw [first_map (fun b => smallR b nm ps ts), first_map (fun b => smallR b nm ps ts)] at hp
   exact hp
end Go.Proofs.Ytnoebjmhimehcaa.Pl
/- What the functions over nets answer, told plainly. -/
namespace Go.Proofs.Ytnoebjmhimehcaa.Pl
open Go.RowKit Go.Proofs.Ytnoebjmhimehcaa.P Go.Proofs.YtnoebjmhimehcaaW.PrintWords Go.Proofs.YtnoebjmhimehcaaW.PrintMore

theorem bytes_eq {a b : ByteArray} (h : a.toList = b.toList) : a = b := by
 rw [ByteArray.toList_eq, ByteArray.toList_eq] at h
 exact Go.WideShapes.bytes_inj h
def weightS (l : List Ac) (p : Int) : Int := first (fun i => if (l.getD i zA).f0 = p then some (l.getD i zA).f1 else none) 0 l.length
def placeS (v : Bool) (ps : List Pla) (s : ByteArray) : Int := if v = true then first (fun i => if (ps.getD i zP).f0.toList = s.toList then some (i : Int) else none) (-1) ps.length else -1
def transS (v : Bool) (ts : List Tra) (s : ByteArray) : Int := if v = true then first (fun i => if (ts.getD i zT).f0.toList = s.toList then some (i : Int) else none) (-1) ts.length else -1
def plainP (ps : List Pla) (e : Bool) : Bool := first (fun i => if (ps.getD i zP).f2 ≠ 0 then some false else none) e ps.length
def plainT (ts : List Tra) (e : Bool) : Bool := first (fun i => if ((ts.getD i zT).f3.length : Int) > 0 ∨ (ts.getD i zT).f4 ≠ 0 then some false else none) e ts.length
def plainS (v : Bool) (ps : List Pla) (ts : List Tra) : Bool := plainT ts (plainP ps v)
theorem plainP_eq (ps : List Pla) (e : Bool) : plainP ps e = if ∃ i, i < ps.length ∧ (ps.getD i zP).f2 ≠ 0 then false else e := first_any _ _ _ _
theorem plainT_eq (ts : List Tra) (e : Bool) : plainT ts e = if ∃ i, i < ts.length ∧ (((ts.getD i zT).f3.length : Int) > 0 ∨ (ts.getD i zT).f4 ≠ 0) then false else e := first_any _ _ _ _
theorem plain_swap (v : Bool) (ps : List Pla) (ts : List Tra) : plainS v ps ts = if v = true then plainP ps (plainT ts true) else false := by
 unfold plainS
 rw [plainT_eq, plainP_eq, plainP_eq, plainT_eq]
 cases v <;> by_cases c1 : ∃ i, i < ps.length ∧ (ps.getD i zP).f2 ≠ 0 <;> by_cases c2 : ∃ i, i < ts.length ∧ (((ts.getD i zT).f3.length : Int) > 0 ∨ (ts.getD i zT).f4 ≠ 0) <;> simp only [c1, c2, if_true, if_false, Bool.false_eq_true, ite_self]
def producersS (v : Bool) (ts : List Tra) (p : Int) : List Int := if v = true then ((List.range ts.length).filter fun t : Nat => decide (weightS (ts.getD t zT).f2 p > 0)).map (fun t : Nat => (t : Int)) else []
def consumersS (v : Bool) (ts : List Tra) (p : Int) : List Int := if v = true then ((List.range ts.length).filter fun t : Nat => decide (weightS (ts.getD t zT).f1 p > 0)).map (fun t : Nat => (t : Int)) else []

/-! ### equal nets -/
theorem ac_ext {a b : Ac} (h0 : a.f0 = b.f0) (h1 : a.f1 = b.f1) : a = b := by cases a; cases b; simp_all
theorem pla_ext {a b : Pla} (h0 : a.f0 = b.f0) (h1 : a.f1 = b.f1) (h2 : a.f2 = b.f2) : a = b := by cases a; cases b; simp_all
theorem tra_ext {a b : Tra} (h0 : a.f0 = b.f0) (h1 : a.f1 = b.f1) (h2 : a.f2 = b.f2) (h3 : a.f3 = b.f3) (h4 : a.f4 = b.f4) : a = b := by cases a; cases b; simp_all
theorem ext_getD {α : Type} (z : α) {a b : List α} (hl : a.length = b.length) (h : ∀ i, i < a.length → a.getD i z = b.getD i z) : a = b := by
 refine List.ext_getElem hl (fun i h1 h2 => ?_)
 have := h i h1
 rw [List.getD_eq_getElem?_getD, List.getD_eq_getElem?_getD, List.getElem?_eq_getElem h1, List.getElem?_eq_getElem h2] at this
 exact this
def neA (x y : Ac) : Bool := (!(x.f0 == y.f0) || (!(x.f1 == y.f1)))
theorem neA_false {x y : Ac} : neA x y = false ↔ x = y := by
 unfold neA
 constructor
 · intro h
   simp only [Bool.or_eq_false_iff, Bool.not_eq_false', beq_iff_eq] at h
   exact ac_ext h.1 h.2
 · rintro rfl
   simp
def sameArcsS (a b : List Ac) : Bool := if (a.length : Int) = (b.length : Int) then first (fun i => if neA (a.getD i zA) (b.getD i zA) = true then some false else none) true a.length else false
theorem first_bool {n : Nat} (c : Nat → Bool) : first (fun i => if c i = true then some false else none) true n = true ↔ ∀ i, i < n → c i = false := by
 rw [first_any (fun i => c i = true)]
 constructor
 · intro h i hi
   refine Bool.eq_false_iff.2 fun hc => ?_
   rw [if_pos ⟨i, hi, hc⟩] at h
   cases h
 · intro h
   rw [if_neg]
   rintro ⟨i, hi, hc⟩
   rw [h i hi] at hc
   cases hc
theorem sameArcsS_iff {a b : List Ac} : sameArcsS a b = true ↔ a = b := by
 unfold sameArcsS
 constructor
 · intro h
   by_cases hl : (a.length : Int) = (b.length : Int)
   · rw [if_pos hl] at h
     exact ext_getD zA (by omega) (fun i hi => neA_false.1 (first_bool (fun i => neA (a.getD i zA) (b.getD i zA)) |>.1 h i hi))
   · rw [if_neg hl] at h; cases h
 · rintro rfl
   rw [if_pos rfl]
   exact first_bool (fun i => neA (a.getD i zA) (a.getD i zA)) |>.2 fun i _ => neA_false.2 rfl
def neP (x y : Pla) : Bool := (!(x.f0.toList == y.f0.toList) || (!(x.f1 == y.f1) || (!(x.f2 == y.f2))))
theorem neP_false {x y : Pla} : neP x y = false ↔ x = y := by
 unfold neP
 constructor
 · intro h
   simp only [Bool.or_eq_false_iff, Bool.not_eq_false', beq_iff_eq] at h
   exact pla_ext (bytes_eq h.1) h.2.1 h.2.2
 · rintro rfl
   simp
def eqT (x y : Tra) : Bool := if (x.f0.toList == y.f0.toList) = true then (if (x.f4 == y.f4) = true then (if sameArcsS x.f1 y.f1 = true then (if sameArcsS x.f2 y.f2 = true then sameArcsS x.f3 y.f3 else false) else false) else false) else false
theorem eqT_true {x y : Tra} : eqT x y = true ↔ x = y := by
 unfold eqT
 constructor
 · intro h
   by_cases c0 : (x.f0.toList == y.f0.toList) = true
   · rw [if_pos c0] at h
     by_cases c4 : (x.f4 == y.f4) = true
     · rw [if_pos c4] at h
       by_cases c1 : sameArcsS x.f1 y.f1 = true
       · rw [if_pos c1] at h
         by_cases c2 : sameArcsS x.f2 y.f2 = true
         · rw [if_pos c2] at h
           exact tra_ext (bytes_eq (beq_iff_eq.1 c0)) (sameArcsS_iff.1 c1) (sameArcsS_iff.1 c2) (sameArcsS_iff.1 h) (beq_iff_eq.1 c4)
         · rw [if_neg c2] at h; cases h
       · rw [if_neg c1] at h; cases h
     · rw [if_neg c4] at h; cases h
   · rw [if_neg c0] at h; cases h
 · rintro rfl
   rw [if_pos (beq_iff_eq.2 rfl), if_pos (beq_iff_eq.2 rfl), if_pos (sameArcsS_iff.2 rfl), if_pos (sameArcsS_iff.2 rfl)]
   exact sameArcsS_iff.2 rfl
def equalS (nm : ByteArray) (ps : List Pla) (ts : List Tra) (nm' : ByteArray) (ps' : List Pla) (ts' : List Tra) : Bool :=
 if (nm.toList == nm'.toList) = true then (if (ps.length : Int) = (ps'.length : Int) then (if (ts.length : Int) = (ts'.length : Int) then first (fun i => if neP (ps.getD i zP) (ps'.getD i zP) = true then some false else none) (first (fun i => if (!eqT (ts.getD i zT) (ts'.getD i zT)) = true then some false else none) true ts.length) ps.length else false) else false) else false
theorem equalS_iff {nm : ByteArray} {ps : List Pla} {ts : List Tra} {nm' : ByteArray} {ps' : List Pla} {ts' : List Tra} : equalS nm ps ts nm' ps' ts' = true ↔ nm = nm' ∧ ps = ps' ∧ ts = ts' := by
 unfold equalS
 constructor
 · intro h
   by_cases c0 : (nm.toList == nm'.toList) = true
   · rw [if_pos c0] at h
     by_cases c1 : (ps.length : Int) = (ps'.length : Int)
     · rw [if_pos c1] at h
       by_cases c2 : (ts.length : Int) = (ts'.length : Int)
       · rw [if_pos c2] at h
         rcases first_cases (fun i => if neP (ps.getD i zP) (ps'.getD i zP) = true then some false else none) (first (fun i => if (!eqT (ts.getD i zT) (ts'.getD i zT)) = true then some false else none) true ts.length) ps.length with ⟨h1, h2⟩ | ⟨j, h1, h2, _⟩
         · rw [h1] at h
           refine ⟨bytes_eq (beq_iff_eq.1 c0), ext_getD zP (by omega) (fun i hi => neP_false.1 ?_), ext_getD zT (by omega) (fun i hi => eqT_true.1 ?_)⟩
           · have := h2 i hi
             refine Bool.eq_false_iff.2 fun hc => ?_
             simp only [hc, if_true] at this
             cases this
           · have := first_bool (fun i => !eqT (ts.getD i zT) (ts'.getD i zT)) |>.1 h i hi
             simpa using this
         · rw [h] at h2
           by_cases d : neP (ps.getD j zP) (ps'.getD j zP) = true
           · simp only [d, if_true] at h2; cases h2
           · simp only [d] at h2; cases h2
       · rw [if_neg c2] at h; cases h
     · rw [if_neg c1] at h; cases h
   · rw [if_neg c0] at h; cases h
 · rintro ⟨rfl, rfl, rfl⟩
   rw [if_pos (beq_iff_eq.2 rfl), if_pos rfl, if_pos rfl, first_all]
   · exact first_bool (fun i => !eqT (ts.getD i zT) (ts.getD i zT)) |>.2 fun i _ => by rw [eqT_true.2 rfl]; rfl
   · intro j hj
     rw [if_neg (by rw [neP_false.2 rfl]; exact Bool.false_ne_true)]
end Go.Proofs.Ytnoebjmhimehcaa.Pl
/- What the arcs of a list say: the weight. -/
namespace Go.Proofs.Ytnoebjmhimehcaa.Pl
set_option linter.unusedVariables false
open Go.RowKit Go.Proofs.Ytnoebjmhimehcaa.P Go.Proofs.YtnoebjmhimehcaaW.PrintWords Go.Proofs.YtnoebjmhimehcaaW.PrintMore

theorem weight_ev (l : List Ac) (p : Int) (hl : l.length ≤ 1000000) : Ev (fun k => net_weight.f k l p) (weightS l p) :=
 Ev_loop (L := fun k i => net_weight.l0 k p l (l.length : Int) (i : Int)) 1 _ (fun k i hi => by
   simp only [net_weight.l0]
   rw [if_pos (by omega), if_pos (by omega), if_pos (by omega), rdA, wrap_up hi (by omega)]
   by_cases c : (l.getD i zA).f0 = p
   · rw [if_pos c, if_pos c]; rfl
   · rw [if_neg c, if_neg c]; rfl) (Ev.one (fun k => by simp only [net_weight.l0]; rw [if_neg (by omega)]))
end Go.Proofs.Ytnoebjmhimehcaa.Pl
/- The places of a list that a test takes, one by one. -/
namespace Go.Proofs.Ytnoebjmhimehcaa.Pl
open Go.RowKit
theorem filter_len (q : Nat → Bool) (i : Nat) : (((List.range i).filter q).map (fun t : Nat => (t : Int))).length ≤ i := by
 rw [List.length_map]
 exact Nat.le_trans (List.length_filter_le _ _) (by rw [List.length_range]; exact Nat.le_refl _)
theorem filter_next (q : Nat → Bool) (i : Nat) : ((List.range (i + 1)).filter q).map (fun t : Nat => (t : Int)) = if q i = true then ((List.range i).filter q).map (fun t : Nat => (t : Int)) ++ [(i : Int)] else ((List.range i).filter q).map (fun t : Nat => (t : Int)) := by
 rw [filter_range_succ]
 by_cases h : q i = true
 · rw [if_pos h, if_pos h, List.map_append]; rfl
 · rw [if_neg h, if_neg h]
end Go.Proofs.Ytnoebjmhimehcaa.Pl
/- Producers and consumers: the program's text. -/
namespace Go.Proofs.Ytnoebjmhimehcaa.Pl
set_option linter.unusedVariables false
open Go.RowKit Go.Proofs.Ytnoebjmhimehcaa.P Go.Proofs.YtnoebjmhimehcaaW.PrintWords Go.Proofs.YtnoebjmhimehcaaW.PrintMore

theorem producers_ev (nm : ByteArray) {ps : List Pla} {ts : List Tra} (p : Int) (ht : ts.length ≤ 1000000) (hT : Thin ts) : Ev (fun k => net_Producers.f k nm ps ts p) (producersS (validS nm ps ts) ts p) := by
 unfold net_Producers.f producersS
 refine Ev.bind (valid_ev nm hT) ?_
 by_cases hv : validS nm ps ts = true
 · simp only [hv, ↓reduceIte]
   exact Ev_up (L := fun k i => net_Producers.l0 k ts p (((List.range i).filter fun t : Nat => decide (weightS (ts.getD t zT).f2 p > 0)).map (fun t : Nat => (t : Int))) (i : Int)) (n := ts.length)
     (fun i hi hr => Ev.step (f := fun k => (net_weight.f k (ts.getD i zT).f2 p).bind fun t => if t > 0 then net_Producers.l0 k ts p ((((List.range i).filter fun t : Nat => decide (weightS (ts.getD t zT).f2 p > 0)).map (fun t : Nat => (t : Int))) ++ [(i : Int)]) ((i + 1 : Nat) : Int) else net_Producers.l0 k ts p (((List.range i).filter fun t : Nat => decide (weightS (ts.getD t zT).f2 p > 0)).map (fun t : Nat => (t : Int))) ((i + 1 : Nat) : Int)) (fun k => by
       simp only [net_Producers.l0]
       have := filter_len (fun t : Nat => decide (weightS (ts.getD t zT).f2 p > 0)) i
       rw [if_pos (by omega), if_pos (by omega), if_pos (by omega), rdT, wrap_up hi (by omega)]) (by
         refine Ev.bind (weight_ev _ p (hT.at hi).2.2.1) ?_
         rw [filter_next] at hr
         by_cases c : weightS (ts.getD i zT).f2 p > 0
         · simp only [c, decide_true, ↓reduceIte] at hr ⊢; exact hr
         · simp only [c, decide_false, ↓reduceIte, Bool.false_eq_true] at hr ⊢; exact hr))
     (Ev.one (fun k => by simp only [net_Producers.l0]; rw [if_neg (by omega)]))
 · simp only [hv]; exact Ev.some _
theorem consumers_ev (nm : ByteArray) {ps : List Pla} {ts : List Tra} (p : Int) (ht : ts.length ≤ 1000000) (hT : Thin ts) : Ev (fun k => net_Consumers.f k nm ps ts p) (consumersS (validS nm ps ts) ts p) := by
 unfold net_Consumers.f consumersS
 refine Ev.bind (valid_ev nm hT) ?_
 by_cases hv : validS nm ps ts = true
 · simp only [hv, ↓reduceIte]
   exact Ev_up (L := fun k i => net_Consumers.l0 k ts p (((List.range i).filter fun t : Nat => decide (weightS (ts.getD t zT).f1 p > 0)).map (fun t : Nat => (t : Int))) (i : Int)) (n := ts.length)
     (fun i hi hr => Ev.step (f := fun k => (net_weight.f k (ts.getD i zT).f1 p).bind fun t => if t > 0 then net_Consumers.l0 k ts p ((((List.range i).filter fun t : Nat => decide (weightS (ts.getD t zT).f1 p > 0)).map (fun t : Nat => (t : Int))) ++ [(i : Int)]) ((i + 1 : Nat) : Int) else net_Consumers.l0 k ts p (((List.range i).filter fun t : Nat => decide (weightS (ts.getD t zT).f1 p > 0)).map (fun t : Nat => (t : Int))) ((i + 1 : Nat) : Int)) (fun k => by
       simp only [net_Consumers.l0]
       have := filter_len (fun t : Nat => decide (weightS (ts.getD t zT).f1 p > 0)) i
       rw [if_pos (by omega), if_pos (by omega), if_pos (by omega), rdT, wrap_up hi (by omega)]) (by
         refine Ev.bind (weight_ev _ p (hT.at hi).2.1) ?_
         rw [filter_next] at hr
         by_cases c : weightS (ts.getD i zT).f1 p > 0
         · simp only [c, decide_true, ↓reduceIte] at hr ⊢; exact hr
         · simp only [c, decide_false, ↓reduceIte, Bool.false_eq_true] at hr ⊢; exact hr))
     (Ev.one (fun k => by simp only [net_Consumers.l0]; rw [if_neg (by omega)]))
 · simp only [hv]; exact Ev.some _

end Go.Proofs.Ytnoebjmhimehcaa.Pl
/- The reference's names. -/
namespace Go.Proofs.Ytnoebjmhimehcaa.Pl
open Go.RowKit Go.Proofs.Ytnoebjmhimehcaa.P Go.Proofs.YtnoebjmhimehcaaW.PrintWords Go.Proofs.YtnoebjmhimehcaaW.PrintMore

/-! ### Name -/
set_option linter.unusedSimpArgs false in
theorem refname_step (k : Nat) (s : ByteArray) (i : Nat) (hi : i < s.size) (hs : s.size ≤ 1000000) :
   r09_Name.l0 (k + 1) s (i : Int) = stepO (if nameC (i : Int) (bt s (i : Int)) = true then none else some false) (r09_Name.l0 k s ((i + 1 : Nat) : Int)) := by
 simp only [r09_Name.l0]
 rw [if_pos (by omega), if_pos (by omega), wrap_up hi (by omega)]
 unfold nameC
 generalize bt s (i : Int) = c
 have e95 : (c == 95) = decide (c = 95) := by rw [Bool.eq_iff_iff]; simp
 have e46 : (c == 46) = decide (c = 46) := by rw [Bool.eq_iff_iff]; simp
 rw [e95, e46]
 have b7 : (0 : Int) < (i : Int) ↔ ¬ (i : Int) = 0 := by omega
 by_cases a1 : c ≥ 97 <;> by_cases a2 : c ≤ 122 <;> by_cases a3 : c = 95 <;> by_cases a4 : c ≥ 48 <;> by_cases a5 : c ≤ 57 <;> by_cases a6 : c = 46 <;> by_cases a7 : (i : Int) = 0 <;>
   first
   | (exfalso; omega)
   | (subst a3; simp [stepO]; done)
   | (subst a6
      have d7 : i = 0 := by omega
      simp [stepO, d7]; done)
   | (subst a6
      have d7 : ¬ i = 0 := by omega
      have d8 : 0 < i := by omega
      simp [stepO, d7, d8]; done)
   | (simp only [b7, a1, a2, a3, a4, a5, a6, a7, ge_iff_le.1 a1, ↓reduceIte, decide_true, decide_false, Bool.true_and, Bool.false_and, Bool.and_true, Bool.and_false, Bool.or_true, Bool.true_or, Bool.or_false, Bool.false_or, Bool.false_eq_true, not_true_eq_false, not_false_eq_true, stepO]; done)
   | (have c1 : ¬ 97 ≤ c := a1
      simp only [b7, a1, c1, a2, a3, a4, a5, a6, a7, ↓reduceIte, decide_true, decide_false, Bool.true_and, Bool.false_and, Bool.and_true, Bool.and_false, Bool.or_true, Bool.true_or, Bool.or_false, Bool.false_or, Bool.false_eq_true, not_true_eq_false, not_false_eq_true, stepO]; first | done | rfl)
theorem refname_ev (s : ByteArray) : Ev (fun k => r09_Name.f k s) (nameB s) := by
 have e0 : ∀ k, r09_Name.f k s = r09_Name.j0 k s (decide ((s.size : Int) < 1 ∨ (s.size : Int) > 16)) := fun k => by
   unfold r09_Name.f
   exact ite_or _ _ (fun b => r09_Name.j0 k s b)
 refine Ev.congr e0 ?_
 by_cases c : (s.size : Int) < 1 ∨ (s.size : Int) > 16
 · rw [decide_eq_true c]
   have hf : nameB s = false := by
     unfold nameB
     rcases c with c | c
     · rw [decide_eq_false (show ¬ 1 ≤ s.size by omega)]; rfl
     · rw [decide_eq_false (show ¬ s.size ≤ 16 by omega)]; simp
   rw [hf]
   exact Ev.one (fun k => by simp only [r09_Name.j0, ↓reduceIte])
 · rw [decide_eq_false c]
   refine Ev.step (f := fun k => r09_Name.l0 k s ((0 : Nat) : Int)) (fun k => by simp only [r09_Name.j0]; rw [if_neg Bool.false_ne_true]; rfl) ?_
   have h := Ev_loop (L := fun k i => r09_Name.l0 k s (i : Int)) (n := s.size) 1 (fun i => if nameC (i : Int) (bt s (i : Int)) = true then none else some false) (e := true)
     (fun k i hi => refname_step k s i hi (by omega)) (Ev.one (fun k => by simp only [r09_Name.l0]; rw [if_neg (by omega)]))
   have e : first (fun i => if nameC (i : Int) (bt s (i : Int)) = true then none else some false) true s.size = nameB s := by
     rcases first_cases (fun i => if nameC (i : Int) (bt s (i : Int)) = true then none else some false) true s.size with ⟨h1, h2⟩ | ⟨j, h1, h2, _⟩
     · rw [h1]
       exact (nameB_yes (by omega) (by omega) (fun i hi => of_ite_none (h2 i hi))).symm
     · obtain ⟨h3, h4⟩ := of_ite_some h2
       rw [← h4]
       exact (nameB_no h1 (Bool.eq_false_iff.2 h3)).symm
   rw [← e]
   exact h

end Go.Proofs.Ytnoebjmhimehcaa.Pl
/- The reference's check answers the same. -/
namespace Go.Proofs.Ytnoebjmhimehcaa.Pl
open Go.RowKit Go.Proofs.Ytnoebjmhimehcaa.P Go.Proofs.YtnoebjmhimehcaaW.PrintWords Go.Proofs.YtnoebjmhimehcaaW.PrintMore

/-! ### a place -/
theorem nmE_loop (l : List ByteArray) (s : ByteArray) (h : nameB s = true) : nmE l s = if (l.any fun o => o.toList == s.toList) = true then 6 else 0 := by unfold nmE; rw [if_pos h]
theorem refplace_ev (nm : ByteArray) {ps : List Pla} (ts : List Tra) {i : Nat} (hi : i < ps.length) (hp : ps.length ≤ 1000000) : Ev (fun k => r09_place.f k nm ps ts (i : Int)) (plR ps i) := by
 have e0 : ∀ k, r09_place.f k nm ps ts (i : Int) = (r09_Name.f k (ps.getD i zP).f0).bind fun t => if t = true then r09_place.l0 k (i : Int) 0 nm ps ts (ps.getD i zP).f0 (ps.getD i zP).f1 (ps.getD i zP).f2 else some 5 := fun k => by
   unfold r09_place.f
   rw [if_pos (by omega), if_pos (by omega), rdP]
 refine Ev.congr e0 (Ev.bind (refname_ev _) ?_)
 unfold plR
 by_cases hn : nameB (ps.getD i zP).f0 = true
 · simp only [hn, ↓reduceIte]
   have hcap : Ev (fun k => r09_place.l0 k (i : Int) (i : Int) nm ps ts (ps.getD i zP).f0 (ps.getD i zP).f1 (ps.getD i zP).f2) (placeE (ps.getD i zP).f1 (ps.getD i zP).f2) := by
     refine Ev.stepn 2 (f := fun _ => some (placeE (ps.getD i zP).f1 (ps.getD i zP).f2)) (fun k => ?_) (Ev.some _)
     simp only [r09_place.l0]
     rw [if_neg (by omega), ite_or _ _ (fun b => r09_place.j1 (k + 1) b (ps.getD i zP).f0 (ps.getD i zP).f1 (ps.getD i zP).f2)]
     simp only [r09_place.j1]
     generalize (ps.getD i zP).f1 = x
     generalize (ps.getD i zP).f2 = c
     unfold placeE
     by_cases c1 : c < 0 ∨ c > 1048576
     · rw [decide_eq_true c1, if_pos rfl, if_pos c1]
     · rw [decide_eq_false c1, if_neg Bool.false_ne_true, if_neg c1]
       by_cases c2 : x < 0
       · rw [if_pos c2, if_pos (Or.inl (Or.inl c2))]
       · rw [if_neg c2]
         by_cases c3 : x > 1048576
         · rw [if_pos c3, if_pos (Or.inl (Or.inr c3))]
         · rw [if_neg c3]
           by_cases c4 : c = 0
           · rw [if_pos c4, if_neg (by omega)]
           · rw [if_neg c4]
             by_cases c5 : x > c
             · rw [if_pos c5, if_pos (Or.inr ⟨c4, c5⟩)]
             · rw [if_neg c5, if_neg (by omega)]
   have h := Ev_loop (L := fun k j => r09_place.l0 k (i : Int) (j : Int) nm ps ts (ps.getD i zP).f0 (ps.getD i zP).f1 (ps.getD i zP).f2) (n := i) 1 (fun j => if (ps.getD j zP).f0.toList = (ps.getD i zP).f0.toList then some 6 else none) (e := placeE (ps.getD i zP).f1 (ps.getD i zP).f2)
     (fun k j hj => by
       simp only [r09_place.l0]
       rw [if_pos (by omega), if_pos (by omega), if_pos (by omega), rdP, wrap_up hj (by omega)]
       by_cases c : (ps.getD j zP).f0.toList = (ps.getD i zP).f0.toList
       · rw [if_pos c, if_pos c]; rfl
       · rw [if_neg c, if_neg c]; rfl) hcap
   rw [first_any] at h
   have e : (∃ j, j < i ∧ (ps.getD j zP).f0.toList = (ps.getD i zP).f0.toList) ↔ (((ps.take i).map (·.f0)).any fun o => o.toList == (ps.getD i zP).f0.toList) = true := by
     rw [any_take ps (·.f0) _ zP (by omega)]
     simp only [beq_iff_eq]
   rw [nmE_loop _ _ hn]
   by_cases d : ∃ j, j < i ∧ (ps.getD j zP).f0.toList = (ps.getD i zP).f0.toList
   · rw [if_pos d] at h
     rw [if_pos (e.1 d), if_pos (by decide)]
     exact h
   · rw [if_neg d] at h
     rw [if_neg (fun x => d (e.2 x)), if_neg (by decide)]
     exact h
 · simp only [hn]
   have : nmE ((ps.take i).map (·.f0)) (ps.getD i zP).f0 = 5 := by unfold nmE; rw [if_neg hn]
   rw [this, if_pos (by decide)]
   exact Ev.some _

/-! ### arcs -/
theorem refarcs_step (k : Nat) (nm : ByteArray) (ps : List Pla) (ts : List Tra) (l : List Ac) (i : Nat) (hi : i < l.length) (hl : l.length ≤ 1000000) :
   r09_arcs.l0 (k + 3) l (i : Int) nm ps ts = stepO (arcE (ps.length : Int) l i) (r09_arcs.l0 k l ((i + 1 : Nat) : Int) nm ps ts) := by
 simp only [r09_arcs.l0]
 rw [if_pos (by omega), if_pos (by omega), rdA, ite_or _ _ (fun b => r09_arcs.j1 (k + 2) l (i : Int) b nm ps ts)]
 unfold arcE
 by_cases c1 : (l.getD i zA).f0 < 0 ∨ (l.getD i zA).f0 ≥ (ps.length : Int)
 · rw [decide_eq_true c1, if_pos c1]; simp only [r09_arcs.j1, ↓reduceIte, stepO]
 · rw [decide_eq_false c1, if_neg c1]
   have e2 : ∀ b : Bool, r09_arcs.j2 (k + 1) l (i : Int) b nm ps ts = if b = true then some 8 else if (l.getD i zA).f1 < 1 ∨ (l.getD i zA).f1 > 99 then some 9 else r09_arcs.l0 k l ((i + 1 : Nat) : Int) nm ps ts := by
     intro b
     simp only [r09_arcs.j2]
     cases b with
     | true => rw [if_pos rfl, if_pos rfl]
     | false => rw [if_neg Bool.false_ne_true, if_neg Bool.false_ne_true, if_pos (by omega), if_pos (by omega), rdA, wrap_up hi (by omega), ite_or2]
   simp only [r09_arcs.j1]
   rw [if_neg Bool.false_ne_true]
   by_cases c2 : 0 < i
   · rw [if_pos (by omega), if_pos (by omega), if_pos (by omega), if_pos (by rw [wrap_ok (by omega) (by omega)]; omega), if_pos (by rw [wrap_ok (by omega) (by omega)]; omega), wrap_ok (x := (i : Int) - 1) (by omega) (by omega), show ((i : Int) - 1) = ((i - 1 : Nat) : Int) by omega, rdA, rdA, e2]
     by_cases c3 : (l.getD (i - 1) zA).f0 ≥ (l.getD i zA).f0
     · rw [decide_eq_true (show (l.getD i zA).f0 ≤ (l.getD (i - 1) zA).f0 from c3), if_pos rfl, if_pos ⟨c2, c3⟩]; rfl
     · rw [decide_eq_false (show ¬ (l.getD i zA).f0 ≤ (l.getD (i - 1) zA).f0 from c3), if_neg Bool.false_ne_true, if_neg (show ¬ (0 < i ∧ (l.getD (i - 1) zA).f0 ≥ (l.getD i zA).f0) from fun h => c3 h.2)]
       by_cases d : (l.getD i zA).f1 < 1 ∨ (l.getD i zA).f1 > 99
       · rw [if_pos d, if_pos d]; rfl
       · rw [if_neg d, if_neg d]; rfl
   · rw [if_neg (by omega), e2, if_neg Bool.false_ne_true, if_neg (show ¬ (0 < i ∧ (l.getD (i - 1) zA).f0 ≥ (l.getD i zA).f0) from fun h => c2 h.1)]
     by_cases d : (l.getD i zA).f1 < 1 ∨ (l.getD i zA).f1 > 99
     · rw [if_pos d, if_pos d]; rfl
     · rw [if_neg d, if_neg d]; rfl
theorem refarcs_ev (nm : ByteArray) (ps : List Pla) (ts : List Tra) (l : List Ac) (hl : l.length ≤ 1000000) : Ev (fun k => r09_arcs.f k nm ps ts l) (arcsE (ps.length : Int) l) :=
 Ev_loop (L := fun k i => r09_arcs.l0 k l (i : Int) nm ps ts) 3 (arcE (ps.length : Int) l) (fun k i hi => refarcs_step k nm ps ts l i hi hl)
   (Ev.one (fun k => by simp only [r09_arcs.l0]; rw [if_neg (by omega)]))

/-! ### a transition -/
theorem reftrans_ev (nm : ByteArray) {ps : List Pla} {ts : List Tra} {i : Nat} (hi : i < ts.length) (hp : ps.length ≤ 1000000) (ht : ts.length ≤ 1000000) (hT : Thin ts) : Ev (fun k => r09_trans.f k nm ps ts (i : Int)) (trR ps ts i) := by
 have e0 : ∀ k, r09_trans.f k nm ps ts (i : Int) = (r09_Name.f k (ts.getD i zT).f0).bind fun t => if t = true then r09_trans.l0 k (i : Int) 0 nm ps ts (ts.getD i zT).f0 (ts.getD i zT).f1 (ts.getD i zT).f2 (ts.getD i zT).f3 (ts.getD i zT).f4 else some 5 := fun k => by
   unfold r09_trans.f
   rw [if_pos (by omega), if_pos (by omega), rdT]
 refine Ev.congr e0 (Ev.bind (refname_ev _) ?_)
 unfold trR
 have hth := hT.at hi
 generalize ts.getD i zT = t at hth
 by_cases hn : nameB t.f0 = true
 · simp only [hn, ↓reduceIte]
   have h2 : Ev (fun k => r09_trans.l1 k (i : Int) (i : Int) nm ps ts t.f0 t.f1 t.f2 t.f3 t.f4) (transE (ps.length : Int) t) := by
     refine Ev.step (f := fun k => r09_trans.j2 k (decide (t.f4 < 0 ∨ t.f4 > 9)) nm ps ts t.f0 t.f1 t.f2 t.f3 t.f4) (fun k => ?_) ?_
     · simp only [r09_trans.l1]
       rw [if_neg (by omega)]
       exact ite_or _ _ (fun b => r09_trans.j2 k b nm ps ts t.f0 t.f1 t.f2 t.f3 t.f4)
     · unfold transE
       by_cases c : t.f4 < 0 ∨ t.f4 > 9
       · rw [decide_eq_true c, if_pos c]
         exact Ev.one (fun k => by simp only [r09_trans.j2, ↓reduceIte])
       · rw [decide_eq_false c, if_neg c]
         refine Ev.step (f := fun k => (r09_arcs.f k nm ps ts t.f1).bind fun a => if a = 0 then ((r09_arcs.f k nm ps ts t.f2).bind fun b => if b = 0 then ((r09_arcs.f k nm ps ts t.f3).bind fun c => some c) else some b) else some a) (fun k => by simp only [r09_trans.j2]; rw [if_neg Bool.false_ne_true]) ?_
         refine Ev.bind (refarcs_ev nm ps ts _ hth.2.1) ?_
         by_cases d1 : arcsE (ps.length : Int) t.f1 = 0
         · rw [if_neg (by simpa using d1)]
           simp only [d1, ↓reduceIte]
           refine Ev.bind (refarcs_ev nm ps ts _ hth.2.2.1) ?_
           by_cases d2 : arcsE (ps.length : Int) t.f2 = 0
           · rw [if_neg (by simpa using d2)]
             simp only [d2, ↓reduceIte]
             exact Ev.bind (refarcs_ev nm ps ts _ hth.2.2.2) (Ev.some _)
           · rw [if_pos d2]
             simp only [d2, ↓reduceIte]
             exact Ev.some _
         · rw [if_pos d1]
           simp only [d1, ↓reduceIte]
           exact Ev.some _
   have h1 := Ev_loop (L := fun k j => r09_trans.l1 k (i : Int) (j : Int) nm ps ts t.f0 t.f1 t.f2 t.f3 t.f4) (n := i) 1 (fun j => if (ts.getD j zT).f0.toList = t.f0.toList then some 6 else none) (e := transE (ps.length : Int) t)
     (fun k j hj => by
       simp only [r09_trans.l1]
       rw [if_pos (by omega), if_pos (by omega), if_pos (by omega), rdT, wrap_up hj (by omega)]
       by_cases c : (ts.getD j zT).f0.toList = t.f0.toList
       · rw [if_pos c, if_pos c]; rfl
       · rw [if_neg c, if_neg c]; rfl) h2
   have h0 := Ev_loop (L := fun k j => r09_trans.l0 k (i : Int) (j : Int) nm ps ts t.f0 t.f1 t.f2 t.f3 t.f4) (n := ps.length) 1 (fun j => if (ps.getD j zP).f0.toList = t.f0.toList then some 6 else none) (e := first (fun j => if (ts.getD j zT).f0.toList = t.f0.toList then some 6 else none) (transE (ps.length : Int) t) i)
     (fun k j hj => by
       simp only [r09_trans.l0]
       rw [if_pos (by omega), if_pos (by omega), rdP, wrap_up hj (by omega)]
       by_cases c : (ps.getD j zP).f0.toList = t.f0.toList
       · rw [if_pos c, if_pos c]; rfl
       · rw [if_neg c, if_neg c]; rfl)
     (Ev.step (f := fun k => r09_trans.l1 k (i : Int) ((0 : Nat) : Int) nm ps ts t.f0 t.f1 t.f2 t.f3 t.f4) (fun k => by simp only [r09_trans.l0]; rw [if_neg (by omega)]; rfl) h1)
   rw [first_any, first_any] at h0
   have e : (((ps.map (·.f0)) ++ (ts.take i).map (·.f0)).any fun o => o.toList == t.f0.toList) = true ↔ (∃ j, j < ps.length ∧ (ps.getD j zP).f0.toList = t.f0.toList) ∨ (∃ j, j < i ∧ (ts.getD j zT).f0.toList = t.f0.toList) := by
     rw [List.any_append, Bool.or_eq_true, any_take ts (·.f0) _ zT (by omega), any_all ps (·.f0) _ zP]
     simp only [beq_iff_eq]
   rw [nmE_loop _ _ hn]
   by_cases d : ∃ j, j < ps.length ∧ (ps.getD j zP).f0.toList = t.f0.toList
   · rw [if_pos d] at h0
     rw [if_pos (e.2 (Or.inl d)), if_pos (by decide)]
     exact h0
   · rw [if_neg d] at h0
     by_cases d2 : ∃ j, j < i ∧ (ts.getD j zT).f0.toList = t.f0.toList
     · rw [if_pos d2] at h0
       rw [if_pos (e.2 (Or.inr d2)), if_pos (by decide)]
       exact h0
     · rw [if_neg d2] at h0
       rw [if_neg (fun x => (e.1 x).elim d d2), if_neg (by decide)]
       exact h0
 · simp only [hn]
   have : nmE (ps.map (·.f0) ++ (ts.take i).map (·.f0)) t.f0 = 5 := by unfold nmE; rw [if_neg hn]
   rw [this, if_pos (by decide)]
   exact Ev.some _

/-! ### the check -/
theorem refcheck_ev (nm : ByteArray) {ps : List Pla} {ts : List Tra} (hT : Thin ts) : Ev (fun k => r09_Check.f k nm ps ts) (checkS nm ps ts) := by
 unfold r09_Check.f checkS
 refine Ev.bind (refname_ev nm) ?_
 by_cases h1 : nameB nm = true
 · simp only [h1, ↓reduceIte]
   have e0 : ∀ k, (if (ps.length : Int) < 1 then r09_Check.j0 k true nm ps ts else if (ps.length : Int) > 24 then r09_Check.j0 k true nm ps ts else r09_Check.j0 k (decide ((ts.length : Int) > 24)) nm ps ts) = r09_Check.j0 k (decide ((ps.length : Int) < 1 ∨ (24 : Int) < (ps.length : Int) ∨ (24 : Int) < (ts.length : Int))) nm ps ts := fun k => by
     rw [ite_or ((ps.length : Int) > 24) _ (fun b => r09_Check.j0 k b nm ps ts)]
     exact ite_or _ _ (fun b => r09_Check.j0 k b nm ps ts)
   refine Ev.congr e0 ?_
   by_cases h2 : (ps.length : Int) < 1 ∨ (24 : Int) < (ps.length : Int) ∨ (24 : Int) < (ts.length : Int)
   · rw [decide_eq_true h2, if_pos h2]
     exact Ev.one (fun k => by simp only [r09_Check.j0, ↓reduceIte])
   · rw [decide_eq_false h2, if_neg h2]
     refine Ev.step (f := fun k => r09_Check.l0 k ((0 : Nat) : Int) nm ps ts) (fun k => by simp only [r09_Check.j0]; rw [if_neg Bool.false_ne_true]; rfl) ?_
     have ht := Ev_first (L := fun k i => r09_Check.l1 k (i : Int) nm ps ts) (n := ts.length) (tF ps ts) (e := ((0 : Int), (0 : Int)))
       (fun i hi hf r hr => Ev.step (f := fun k => (r09_trans.f k nm ps ts (i : Int)).bind fun t => if t = 0 then r09_Check.l1 k ((i + 1 : Nat) : Int) nm ps ts else some (t, (ps.length : Int) + (i : Int))) (fun k => by
         simp only [r09_Check.l1]
         rw [if_pos (by omega), wrap_up hi (by omega), wrap_ok (x := (ps.length : Int) + (i : Int)) (by omega) (by omega)]) (by
           refine Ev.bind (reftrans_ev nm hi (by omega) (by omega) hT) ?_
           have hz := of_ite_none hf
           simp only [hz, ↓reduceIte]
           exact hr))
       (fun i r hi hf => Ev.step (f := fun k => (r09_trans.f k nm ps ts (i : Int)).bind fun t => if t = 0 then r09_Check.l1 k ((i + 1 : Nat) : Int) nm ps ts else some (t, (ps.length : Int) + (i : Int))) (fun k => by
         simp only [r09_Check.l1]
         rw [if_pos (by omega), wrap_up hi (by omega), wrap_ok (x := (ps.length : Int) + (i : Int)) (by omega) (by omega)]) (by
           refine Ev.bind (reftrans_ev nm hi (by omega) (by omega) hT) ?_
           obtain ⟨hz, rfl⟩ := of_ite_some hf
           simp only [hz, ↓reduceIte]
           exact Ev.some _))
       (Ev.one (fun k => by simp only [r09_Check.l1]; rw [if_neg (by omega)]))
     exact Ev_first (L := fun k i => r09_Check.l0 k (i : Int) nm ps ts) (n := ps.length) (pF ps) (e := first (tF ps ts) (0, 0) ts.length)
       (fun i hi hf r hr => Ev.step (f := fun k => (r09_place.f k nm ps ts (i : Int)).bind fun t => if t = 0 then r09_Check.l0 k ((i + 1 : Nat) : Int) nm ps ts else some (t, (i : Int))) (fun k => by
         simp only [r09_Check.l0]
         rw [if_pos (by omega), wrap_up hi (by omega)]) (by
           refine Ev.bind (refplace_ev nm ts hi (by omega)) ?_
           have hz := of_ite_none hf
           simp only [hz, ↓reduceIte]
           exact hr))
       (fun i r hi hf => Ev.step (f := fun k => (r09_place.f k nm ps ts (i : Int)).bind fun t => if t = 0 then r09_Check.l0 k ((i + 1 : Nat) : Int) nm ps ts else some (t, (i : Int))) (fun k => by
         simp only [r09_Check.l0]
         rw [if_pos (by omega), wrap_up hi (by omega)]) (by
           refine Ev.bind (refplace_ev nm ts hi (by omega)) ?_
           obtain ⟨hz, rfl⟩ := of_ite_some hf
           simp only [hz, ↓reduceIte]
           exact Ev.some _))
       (Ev.step (f := fun k => r09_Check.l1 k ((0 : Nat) : Int) nm ps ts) (fun k => by simp only [r09_Check.l0]; rw [if_neg (by omega)]; rfl) ht)
 · simp only [h1]; exact Ev.some _
theorem refvalid_ev (nm : ByteArray) {ps : List Pla} {ts : List Tra} (hT : Thin ts) : Ev (fun k => r09_Valid.f k nm ps ts) (validS nm ps ts) := by
 unfold r09_Valid.f
 exact Ev.bind (refcheck_ev nm hT) (Ev.some _)
end Go.Proofs.Ytnoebjmhimehcaa.Pl
/- What the reference's functions over lists of arcs answer. -/
namespace Go.Proofs.Ytnoebjmhimehcaa.Pl
open Go.RowKit Go.Proofs.Ytnoebjmhimehcaa.P Go.Proofs.YtnoebjmhimehcaaW.PrintWords Go.Proofs.YtnoebjmhimehcaaW.PrintMore
theorem refweight_ev (l : List Ac) (p : Int) (hl : l.length ≤ 1000000) : Ev (fun k => r09_Weight.f k l p) (weightS l p) :=
 Ev_loop (L := fun k i => r09_Weight.l0 k l p (i : Int)) 1 _ (fun k i hi => by
   simp only [r09_Weight.l0]
   rw [if_pos (by omega), if_pos (by omega), rdA, wrap_up hi (by omega)]
   by_cases c : (l.getD i zA).f0 = p
   · rw [if_pos c, if_pos c]; rfl
   · rw [if_neg c, if_neg c]; rfl) (Ev.one (fun k => by simp only [r09_Weight.l0]; rw [if_neg (by omega)]))
end Go.Proofs.Ytnoebjmhimehcaa.Pl
/- The reference's targets of a list of arcs. -/
namespace Go.Proofs.Ytnoebjmhimehcaa.Pl
open Go.RowKit Go.Proofs.Ytnoebjmhimehcaa.P Go.Proofs.YtnoebjmhimehcaaW.PrintWords Go.Proofs.YtnoebjmhimehcaaW.PrintMore

theorem reftargets_ev (l : List Ac) (hl : l.length ≤ 1000000) : Ev (fun k => r09_Targets.f k l) (l.map (·.f0)) := by
 have h := Ev_up (L := fun k i => r09_Targets.l0 k l ((l.take i).map (·.f0)) (i : Int)) (n := l.length) (r := l.map (·.f0))
   (fun i hi hr => Ev.step (fun k => by
     simp only [r09_Targets.l0]
     rw [if_pos (by omega), if_pos (by omega), if_pos (by simp only [List.length_map, List.length_take]; omega), rdA, wrap_up hi (by omega), ← take_map_succ l (fun a => a.f0) zA hi]) hr)
   (Ev.one (fun k => by simp only [r09_Targets.l0]; rw [if_neg (by omega), List.take_length]))
 unfold r09_Targets.f
 simpa using h
end Go.Proofs.Ytnoebjmhimehcaa.Pl
/- Producers and consumers, the reference's. -/
namespace Go.Proofs.Ytnoebjmhimehcaa.Pl
open Go.RowKit Go.Proofs.Ytnoebjmhimehcaa.P Go.Proofs.YtnoebjmhimehcaaW.PrintWords Go.Proofs.YtnoebjmhimehcaaW.PrintMore

theorem refproducers_ev (nm : ByteArray) {ps : List Pla} {ts : List Tra} (p : Int) (ht : ts.length ≤ 1000000) (hT : Thin ts) : Ev (fun k => r09_Producers.f k nm ps ts p) (producersS (validS nm ps ts) ts p) := by
 unfold producersS
 by_cases hv : validS nm ps ts = true
 · rw [if_pos hv]
   exact Ev_up (L := fun k i => r09_Producers.l0 k p (((List.range i).filter fun t : Nat => decide (weightS (ts.getD t zT).f2 p > 0)).map (fun t : Nat => (t : Int))) (i : Int) nm ps ts) (n := ts.length)
     (fun i hi hr => by
       generalize hq : (((List.range i).filter fun t : Nat => decide (weightS (ts.getD t zT).f2 p > 0)).map (fun t : Nat => (t : Int))) = acc
       have hl := filter_len (fun t : Nat => decide (weightS (ts.getD t zT).f2 p > 0)) i
       rw [hq] at hl
       rw [filter_next, hq] at hr
       refine Ev.step (f := fun k => (r09_Valid.f k nm ps ts).bind fun b => r09_Producers.j1 k p acc (i : Int) b nm ps ts) (fun k => by simp only [r09_Producers.l0]; rw [if_pos (by omega)]) (Ev.bind (refvalid_ev nm hT) ?_)
       rw [hv]
       refine Ev.step (f := fun k => (r09_Weight.f k (ts.getD i zT).f2 p).bind fun t => if t > 0 then r09_Producers.l0 k p (acc ++ [(i : Int)]) ((i + 1 : Nat) : Int) nm ps ts else r09_Producers.l0 k p acc ((i + 1 : Nat) : Int) nm ps ts) (fun k => by
         simp only [r09_Producers.j1]
         rw [if_pos trivial, if_pos (by omega), if_pos (by omega), if_pos (by omega), rdT, wrap_up hi (by omega)]) (Ev.bind (refweight_ev _ p (hT.at hi).2.2.1) ?_)
       by_cases c : weightS (ts.getD i zT).f2 p > 0
       · simp only [c, decide_true, ↓reduceIte] at hr ⊢; exact hr
       · simp only [c, decide_false, ↓reduceIte, Bool.false_eq_true] at hr ⊢; exact hr)
     (Ev.stepn 2 (f := fun _ => some _) (fun k => by simp only [r09_Producers.l0]; rw [if_neg (by omega)]; simp only [r09_Producers.j1]; rw [if_neg Bool.false_ne_true]) (Ev.some _))
 · rw [if_neg hv]
   have hf := Bool.eq_false_iff.2 hv
   unfold r09_Producers.f
   by_cases h0 : 0 < ts.length
   · refine Ev.step (f := fun k => (r09_Valid.f k nm ps ts).bind fun b => r09_Producers.j1 k p [] 0 b nm ps ts) (fun k => by simp only [r09_Producers.l0]; rw [if_pos (by omega)]) (Ev.bind (refvalid_ev nm hT) ?_)
     rw [hf]
     exact Ev.one (fun k => by simp only [r09_Producers.j1]; rw [if_neg Bool.false_ne_true])
   · exact Ev.stepn 2 (f := fun _ => some _) (fun k => by simp only [r09_Producers.l0]; rw [if_neg (by omega)]; simp only [r09_Producers.j1]; rw [if_neg Bool.false_ne_true]) (Ev.some _)
theorem refconsumers_ev (nm : ByteArray) {ps : List Pla} {ts : List Tra} (p : Int) (ht : ts.length ≤ 1000000) (hT : Thin ts) : Ev (fun k => r09_Consumers.f k nm ps ts p) (consumersS (validS nm ps ts) ts p) := by
 unfold consumersS
 by_cases hv : validS nm ps ts = true
 · rw [if_pos hv]
   exact Ev_up (L := fun k i => r09_Consumers.l0 k p (((List.range i).filter fun t : Nat => decide (weightS (ts.getD t zT).f1 p > 0)).map (fun t : Nat => (t : Int))) (i : Int) nm ps ts) (n := ts.length)
     (fun i hi hr => by
       generalize hq : (((List.range i).filter fun t : Nat => decide (weightS (ts.getD t zT).f1 p > 0)).map (fun t : Nat => (t : Int))) = acc
       have hl := filter_len (fun t : Nat => decide (weightS (ts.getD t zT).f1 p > 0)) i
       rw [hq] at hl
       rw [filter_next, hq] at hr
       refine Ev.step (f := fun k => (r09_Valid.f k nm ps ts).bind fun b => r09_Consumers.j1 k p acc (i : Int) b nm ps ts) (fun k => by simp only [r09_Consumers.l0]; rw [if_pos (by omega)]) (Ev.bind (refvalid_ev nm hT) ?_)
       rw [hv]
       refine Ev.step (f := fun k => (r09_Weight.f k (ts.getD i zT).f1 p).bind fun t => if t > 0 then r09_Consumers.l0 k p (acc ++ [(i : Int)]) ((i + 1 : Nat) : Int) nm ps ts else r09_Consumers.l0 k p acc ((i + 1 : Nat) : Int) nm ps ts) (fun k => by
         simp only [r09_Consumers.j1]
         rw [if_pos trivial, if_pos (by omega), if_pos (by omega), if_pos (by omega), rdT, wrap_up hi (by omega)]) (Ev.bind (refweight_ev _ p (hT.at hi).2.1) ?_)
       by_cases c : weightS (ts.getD i zT).f1 p > 0
       · simp only [c, decide_true, ↓reduceIte] at hr ⊢; exact hr
       · simp only [c, decide_false, ↓reduceIte, Bool.false_eq_true] at hr ⊢; exact hr)
     (Ev.stepn 2 (f := fun _ => some _) (fun k => by simp only [r09_Consumers.l0]; rw [if_neg (by omega)]; simp only [r09_Consumers.j1]; rw [if_neg Bool.false_ne_true]) (Ev.some _))
 · rw [if_neg hv]
   have hf := Bool.eq_false_iff.2 hv
   unfold r09_Consumers.f
   by_cases h0 : 0 < ts.length
   · refine Ev.step (f := fun k => (r09_Valid.f k nm ps ts).bind fun b => r09_Consumers.j1 k p [] 0 b nm ps ts) (fun k => by simp only [r09_Consumers.l0]; rw [if_pos (by omega)]) (Ev.bind (refvalid_ev nm hT) ?_)
     rw [hf]
     exact Ev.one (fun k => by simp only [r09_Consumers.j1]; rw [if_neg Bool.false_ne_true])
   · exact Ev.stepn 2 (f := fun _ => some _) (fun k => by simp only [r09_Consumers.l0]; rw [if_neg (by omega)]; simp only [r09_Consumers.j1]; rw [if_neg Bool.false_ne_true]) (Ev.some _)
end Go.Proofs.Ytnoebjmhimehcaa.Pl
/- Plain lemmas: loops that end early, lists told by their places. -/
namespace Go.Proofs.Ytnoebjmhimehcaa.Pl
open Go.RowKit Go.Proofs.YtnoebjmhimehcaaW.PrintWords Go.Proofs.YtnoebjmhimehcaaW.PrintMore


/-- A list by its places. -/
abbrev mr {α : Type} (n : Nat) (f : Nat → α) : List α := (List.range n).map f
theorem mr_get {α : Type} {n v : Nat} (f : Nat → α) (d : α) (h : v < n) : (mr n f).getD v d = f v := by
 rw [List.getD_eq_getElem?_getD, List.getElem?_map, List.getElem?_range h]; rfl
theorem mr_len {α : Type} (n : Nat) (f : Nat → α) : (mr n f).length = n := by rw [List.length_map, List.length_range]
theorem mr_congr {α : Type} {n : Nat} {f g : Nat → α} (h : ∀ v, v < n → f v = g v) : mr n f = mr n g := List.map_congr_left fun v hv => h v (List.mem_range.1 hv)
theorem mr_set {α : Type} {n p : Nat} (f : Nat → α) (x : α) : (mr n f).set p x = mr n (fun v => if v = p then x else f v) := by
 refine List.ext_getElem? fun i => ?_
 rw [List.getElem?_set, List.getElem?_map, List.getElem?_map, List.length_map, List.length_range]
 by_cases hi : i < n
 · rw [List.getElem?_range hi]
   by_cases e : p = i
   · subst e; simp [hi]
   · simp [e, Ne.symm e]
 · rw [List.getElem?_eq_none (by simpa using hi)]
   by_cases e : p = i
   · subst e; simp [hi]
   · simp [e]
theorem mr_rep {α : Type} (n : Nat) (x : α) : List.replicate n x = mr n (fun _ => x) := by
 refine List.ext_getElem (by simp) fun i h1 h2 => by simp
theorem mr_snoc {α : Type} (n : Nat) (f : Nat → α) : mr (n + 1) f = mr n f ++ [f n] := by unfold mr; rw [List.range_succ, List.map_append]; rfl
end Go.Proofs.Ytnoebjmhimehcaa.Pl
/- The source and the sink of a net, by both texts. -/
namespace Go.Proofs.Ytnoebjmhimehcaa.Pl
set_option linter.unusedVariables false
open Go.RowKit Go.Proofs.Ytnoebjmhimehcaa.P Go.Proofs.YtnoebjmhimehcaaW.PrintWords Go.Proofs.YtnoebjmhimehcaaW.PrintMore

/-- The places for which a list is empty. -/
def endsN (f : Nat → List Int) (i : Nat) : List Nat := (List.range i).filter (fun p => decide ((f p).length = 0))
def onlyS (v : Bool) (K : Nat) (f : Nat → List Int) : Int × Bool :=
 if v = true then (match endsN f K with | [p] => ((p : Int), true) | _ => (-1, false)) else (-1, false)
theorem endsN_succ (f : Nat → List Int) (i : Nat) : endsN f (i + 1) = if (f i).length = 0 then endsN f i ++ [i] else endsN f i := by
 unfold endsN
 rw [filter_range_succ]
 by_cases h : (f i).length = 0
 · rw [if_pos (decide_eq_true h), if_pos h]
 · rw [if_neg (by simpa using h), if_neg h]
theorem endsN_pre (f : Nat → List Int) (i : Nat) : ∀ d, ∃ r, endsN f (i + d) = endsN f i ++ r
 | 0 => ⟨[], by simp⟩
 | d + 1 => by
   obtain ⟨r, h⟩ := endsN_pre f i d
   rw [← Nat.add_assoc, endsN_succ]
   by_cases c : (f (i + d)).length = 0
   · exact ⟨r ++ [i + d], by rw [if_pos c, h, List.append_assoc]⟩
   · exact ⟨r, by rw [if_neg c, h]⟩
theorem endsN_two {f : Nat → List Int} {i K p q : Nat} {v : Bool} (hi : i ≤ K) (h : endsN f i = [p, q]) : onlyS v K f = (-1, false) := by
 obtain ⟨r, e⟩ := endsN_pre f i (K - i)
 rw [show i + (K - i) = K by omega, h] at e
 unfold onlyS
 rw [e]
 cases v <;> rfl
theorem endsN_len (f : Nat → List Int) (i : Nat) : (endsN f i).length ≤ i := Nat.le_trans (List.length_filter_le _ _) (by rw [List.length_range]; exact Nat.le_refl _)
theorem only_prog {L : Nat → Int → Int → Option (Int × Bool)} {K : Nat} {f : Nat → List Int}
   (go : ∀ (i : Nat) (x : Int) r, i < K → (f i).length ≠ 0 → Ev (fun k => L k x ((i + 1 : Nat) : Int)) r → Ev (fun k => L k x (i : Int)) r)
   (two : ∀ (i : Nat) (x : Int), i < K → (f i).length = 0 → x ≥ 0 → Ev (fun k => L k x (i : Int)) (-1, false))
   (put : ∀ (i : Nat) (x : Int) r, i < K → (f i).length = 0 → ¬ x ≥ 0 → Ev (fun k => L k (i : Int) ((i + 1 : Nat) : Int)) r → Ev (fun k => L k x (i : Int)) r)
   (fin : ∀ x, Ev (fun k => L k x (K : Int)) (x, decide (x ≥ 0))) : ∀ d i, K - i = d → i ≤ K →
   (endsN f i = [] → Ev (fun k => L k (-1) (i : Int)) (onlyS true K f)) ∧ ∀ p, endsN f i = [p] → Ev (fun k => L k (p : Int) (i : Int)) (onlyS true K f) := by
 intro d
 induction d with
 | zero =>
   intro i hd hi
   obtain rfl : i = K := by omega
   refine ⟨fun h => ?_, fun p h => ?_⟩
   · have e : onlyS true i f = (-1, decide ((-1 : Int) ≥ 0)) := by unfold onlyS; rw [h]; rfl
     rw [e]; exact fin _
   · have e : onlyS true i f = ((p : Int), decide ((p : Int) ≥ 0)) := by unfold onlyS; rw [h]; rw [decide_eq_true (by omega : (p : Int) ≥ 0)]; rfl
     rw [e]; exact fin _
 | succ d ih =>
   intro i hd hi
   have hi' : i < K := by omega
   obtain ⟨ih1, ih2⟩ := ih (i + 1) (by omega) (by omega)
   by_cases c : (f i).length = 0
   · have es : endsN f (i + 1) = endsN f i ++ [i] := by rw [endsN_succ, if_pos c]
     refine ⟨fun h => put i _ _ hi' c (by omega) (ih2 i (by rw [es, h]; rfl)), fun p h => ?_⟩
     rw [endsN_two (i := i + 1) (p := p) (q := i) (by omega) (by rw [es, h]; rfl)]
     exact two i _ hi' c (by omega)
   · have es : endsN f (i + 1) = endsN f i := by rw [endsN_succ, if_neg c]
     exact ⟨fun h => go i _ _ hi' c (ih1 (by rw [es, h])), fun p h => go i _ _ hi' c (ih2 p (by rw [es, h]))⟩
section
variable {nm : ByteArray} {ps : List Pla} {ts : List Tra}
def prodF (ts : List Tra) (p : Nat) : List Int := producersS true ts (p : Int)
def consF (ts : List Tra) (p : Nat) : List Int := consumersS true ts (p : Int)
theorem onlyProducers_ev (ht : ts.length ≤ 1000000) (hp : ps.length ≤ 1000000) (hT : Thin ts) : Ev (fun k => workflow_Source.f k nm ps ts) (onlyS (validS nm ps ts) ps.length (prodF ts)) := by
 unfold workflow_Source.f workflow_only_Producers.f
 refine Ev.bind ?_ (Ev.some _)
 refine Ev.bind (check_ev nm hT) ?_
 have ev : validS nm ps ts = ((checkS nm ps ts).1 == 0) := rfl
 cases hv : validS nm ps ts with
 | false =>
   rw [hv] at ev
   refine Ev.congr (fun k => if_neg (fun e => by rw [e] at ev; cases ev)) ?_
   exact Ev.some _
 | true =>
   rw [hv] at ev
   refine Ev.congr (fun k => if_pos (beq_iff_eq.1 ev.symm)) ?_
   have st : ∀ (i : Nat) (x : Int) r, i < ps.length → Ev (fun k => if (((prodF ts) i).length : Int) > 0 then workflow_only_Producers.l0 k x (ps.length : Int) ((i + 1 : Nat) : Int) nm ps ts else if x ≥ 0 then some (-1, false) else workflow_only_Producers.l0 k (i : Int) (ps.length : Int) ((i + 1 : Nat) : Int) nm ps ts) r → Ev (fun k => workflow_only_Producers.l0 k x (ps.length : Int) (i : Int) nm ps ts) r := fun i x r hi h => by
     refine Ev.step (fun k => by simp only [workflow_only_Producers.l0]; rw [if_pos (by omega), wrap_up hi (by omega)]) ?_
     refine Ev.bind (producers_ev nm (i : Int) ht hT) ?_
     rw [hv]
     exact h
   refine ((only_prog (L := fun k x i => workflow_only_Producers.l0 k x (ps.length : Int) i nm ps ts) (K := ps.length) (f := (prodF ts)) (fun i x r hi c h => st i x r hi (Ev.congr (fun k => if_pos (by omega)) h)) (fun i x hi c hx => st i x _ hi (Ev.congr (fun k => by rw [if_neg (by omega), if_pos hx]) (Ev.some _))) (fun i x r hi c hx h => st i x r hi (Ev.congr (fun k => by rw [if_neg (by omega), if_neg hx]) h)) (fun x => Ev.one fun k => by simp only [workflow_only_Producers.l0]; rw [if_neg (by omega)]) ps.length 0 rfl (Nat.zero_le _)).1 rfl)
theorem onlyConsumers_ev (ht : ts.length ≤ 1000000) (hp : ps.length ≤ 1000000) (hT : Thin ts) : Ev (fun k => workflow_Sink.f k nm ps ts) (onlyS (validS nm ps ts) ps.length (consF ts)) := by
 unfold workflow_Sink.f workflow_only_Consumers.f
 refine Ev.bind ?_ (Ev.some _)
 refine Ev.bind (check_ev nm hT) ?_
 have ev : validS nm ps ts = ((checkS nm ps ts).1 == 0) := rfl
 cases hv : validS nm ps ts with
 | false =>
   rw [hv] at ev
   refine Ev.congr (fun k => if_neg (fun e => by rw [e] at ev; cases ev)) ?_
   exact Ev.some _
 | true =>
   rw [hv] at ev
   refine Ev.congr (fun k => if_pos (beq_iff_eq.1 ev.symm)) ?_
   have st : ∀ (i : Nat) (x : Int) r, i < ps.length → Ev (fun k => if (((consF ts) i).length : Int) > 0 then workflow_only_Consumers.l0 k x (ps.length : Int) ((i + 1 : Nat) : Int) nm ps ts else if x ≥ 0 then some (-1, false) else workflow_only_Consumers.l0 k (i : Int) (ps.length : Int) ((i + 1 : Nat) : Int) nm ps ts) r → Ev (fun k => workflow_only_Consumers.l0 k x (ps.length : Int) (i : Int) nm ps ts) r := fun i x r hi h => by
     refine Ev.step (fun k => by simp only [workflow_only_Consumers.l0]; rw [if_pos (by omega), wrap_up hi (by omega)]) ?_
     refine Ev.bind (consumers_ev nm (i : Int) ht hT) ?_
     rw [hv]
     exact h
   refine ((only_prog (L := fun k x i => workflow_only_Consumers.l0 k x (ps.length : Int) i nm ps ts) (K := ps.length) (f := (consF ts)) (fun i x r hi c h => st i x r hi (Ev.congr (fun k => if_pos (by omega)) h)) (fun i x hi c hx => st i x _ hi (Ev.congr (fun k => by rw [if_neg (by omega), if_pos hx]) (Ev.some _))) (fun i x r hi c hx h => st i x r hi (Ev.congr (fun k => by rw [if_neg (by omega), if_neg hx]) h)) (fun x => Ev.one fun k => by simp only [workflow_only_Consumers.l0]; rw [if_neg (by omega)]) ps.length 0 rfl (Nat.zero_le _)).1 rfl)
theorem refends_ev (b : Bool) (hp : ps.length ≤ 1000000) (ht : ts.length ≤ 1000000) (hT : Thin ts) : Ev (fun k => r43_ends.f k nm ps ts b) (if validS nm ps ts = true then (endsN (if b = true then consF ts else prodF ts) ps.length).map (fun p : Nat => (p : Int)) else []) := by
 unfold r43_ends.f
 have hr := refvalid_ev nm (ps := ps) hT
 cases hv : validS nm ps ts with
 | false =>
   rw [hv] at hr
   rw [if_neg Bool.false_ne_true]
   have hj : Ev (fun k => r43_ends.j1 k b [] 0 false nm ps ts) [] := Ev.one fun k => by simp only [r43_ends.j1]; rw [if_neg Bool.false_ne_true]
   by_cases c : (0 : Int) < (ps.length : Int)
   · exact Ev.step (fun k => by simp only [r43_ends.l0]; rw [if_pos c]) (Ev.bind hr hj)
   · exact Ev.step (fun k => by simp only [r43_ends.l0]; rw [if_neg c]) hj
 | true =>
   rw [hv] at hr
   rw [if_pos rfl]
   refine Ev_up (L := fun k i => r43_ends.l0 k b ((endsN (if b = true then consF ts else prodF ts) i).map (fun p : Nat => (p : Int))) (i : Int) nm ps ts) (n := ps.length) (fun i hi h => ?_) ?_
   · refine Ev.step (fun k => by simp only [r43_ends.l0]; rw [if_pos (by omega)]) ?_
     refine Ev.bind hr ?_
     refine Ev.step (fun k => by simp only [r43_ends.j1]; rw [if_pos trivial, wrap_up hi (by omega)]) ?_
     refine Ev.bind (refproducers_ev nm (i : Int) ht hT) ?_
     rw [hv]
     have hl := endsN_len (if b = true then consF ts else prodF ts) i
     rw [endsN_succ] at h
     cases b with
     | true =>
       refine Ev.congr (fun k => if_pos rfl) ?_
       refine Ev.bind (refconsumers_ev nm (i : Int) ht hT) ?_
       rw [hv]
       simp only [↓reduceIte] at h hl ⊢
       by_cases c : (consF ts i).length = 0
       · rw [if_pos c, List.map_append, List.map_cons, List.map_nil] at h
         refine Ev.congr (fun k => by rw [if_pos (show ((consumersS true ts (i : Int)).length : Int) = 0 by unfold consF at c; omega), if_pos (by rw [List.length_map]; omega)]) h
       · rw [if_neg c] at h
         exact Ev.congr (fun k => if_neg (show ¬ ((consumersS true ts (i : Int)).length : Int) = 0 by unfold consF at c; omega)) h
     | false =>
       refine Ev.congr (fun k => if_neg Bool.false_ne_true) ?_
       simp only [Bool.false_eq_true, ↓reduceIte] at h hl ⊢
       by_cases c : (prodF ts i).length = 0
       · rw [if_pos c, List.map_append, List.map_cons, List.map_nil] at h
         refine Ev.congr (fun k => by rw [if_pos (show ((producersS true ts (i : Int)).length : Int) = 0 by unfold prodF at c; omega), if_pos (by rw [List.length_map]; omega)]) h
       · rw [if_neg c] at h
         exact Ev.congr (fun k => if_neg (show ¬ ((producersS true ts (i : Int)).length : Int) = 0 by unfold prodF at c; omega)) h
   · refine Ev.step (fun k => by simp only [r43_ends.l0]; rw [if_neg (by omega)]) ?_
     exact Ev.one fun k => by simp only [r43_ends.j1]; rw [if_neg Bool.false_ne_true]
theorem only_of {v : Bool} {K : Nat} {f : Nat → List Int} {G : List Int → Option (Int × Bool)} (hG : ∀ l : List Int, G l = if (l.length : Int) = 1 then (if 0 < (l.length : Int) then some (rd l 0, true) else none) else some (-1, false)) :
   G (if v = true then (endsN f K).map (fun p : Nat => (p : Int)) else []) = some (onlyS v K f) := by
 rw [hG]
 unfold onlyS
 cases v with
 | false => rfl
 | true =>
   rw [if_pos rfl, if_pos rfl]
   match h : endsN f K with
   | [] => rfl
   | [p] => rfl
   | p :: q :: r =>
     rw [if_neg (by simp only [List.map_cons, List.length_cons]; omega)]
theorem refsource_ev (hp : ps.length ≤ 1000000) (ht : ts.length ≤ 1000000) (hT : Thin ts) : Ev (fun k => r43_Source.f k nm ps ts) (onlyS (validS nm ps ts) ps.length (prodF ts)) := by
 unfold r43_Source.f
 refine Ev.bind (refends_ev false hp ht hT) ?_
 exact Ev.congr (fun k => only_of (fun l => rfl)) (Ev.some _)
theorem refsink_ev (hp : ps.length ≤ 1000000) (ht : ts.length ≤ 1000000) (hT : Thin ts) : Ev (fun k => r43_Sink.f k nm ps ts) (onlyS (validS nm ps ts) ps.length (consF ts)) := by
 unfold r43_Sink.f
 refine Ev.bind (refends_ev true hp ht hT) ?_
 exact Ev.congr (fun k => only_of (fun l => rfl)) (Ev.some _)
end
end Go.Proofs.Ytnoebjmhimehcaa.Pl
/- Whether a net is valid, as netclass asks it. -/
namespace Go.Proofs.Ytnoebjmhimehcaa.Pl
open Go.RowKit Go.Proofs.Ytnoebjmhimehcaa.P Go.Proofs.YtnoebjmhimehcaaW.PrintWords Go.Proofs.YtnoebjmhimehcaaW.PrintMore
theorem nvalid_ev (nm : ByteArray) {ps : List Pla} {ts : List Tra} (hT : Thin ts) : Ev (fun k => netclass_valid.f k nm ps ts) (validS nm ps ts) := by
 unfold netclass_valid.f
 exact Ev.bind (check_ev nm hT) (Ev.some _)
end Go.Proofs.Ytnoebjmhimehcaa.Pl
/- Reading a list of lists; appending to a list. -/
namespace Go.Proofs.Ytnoebjmhimehcaa.Pl
open Go.RowKit Go.Proofs.Ytnoebjmhimehcaa.P Go.Proofs.YtnoebjmhimehcaaW.PrintWords Go.Proofs.YtnoebjmhimehcaaW.PrintMore
theorem rdL (xs : List (List Int)) (i : Nat) : rd_L11 xs (i : Int) = xs.getD i [] := by simp [rd_L11]
theorem getD_app {α : Type} (xs : List α) (x d : α) (j : Nat) : (xs ++ [x]).getD j d = if j = xs.length then x else xs.getD j d := by
 have := rdOf_app d xs x (j : Int) (by omega)
 rw [rdOf_nat, rdOf_nat] at this
 rw [this]
 by_cases e : j = xs.length
 · rw [if_pos e, if_pos (by omega)]
 · rw [if_neg e, if_neg (by omega)]
end Go.Proofs.Ytnoebjmhimehcaa.Pl
/- What a valid net is. -/
namespace Go.Proofs.Ytnoebjmhimehcaa.Pl
open Go.RowKit Go.Proofs.Ytnoebjmhimehcaa.P Go.Proofs.YtnoebjmhimehcaaW.PrintWords Go.Proofs.YtnoebjmhimehcaaW.PrintMore

structure ValidN (nm : ByteArray) (ps : List Pla) (ts : List Tra) : Prop where
 n : nameB nm = true
 p0 : 1 ≤ ps.length
 p : ps.length ≤ 24
 t : ts.length ≤ 24
 pl : ∀ i, i < ps.length → plR ps i = 0
 tr : ∀ i, i < ts.length → trR ps ts i = 0
theorem validS_iff {nm : ByteArray} {ps : List Pla} {ts : List Tra} : validS nm ps ts = true ↔ ValidN nm ps ts := by
 unfold validS checkS
 constructor
 · intro h
   by_cases h1 : nameB nm = true
   · rw [if_pos h1] at h
     by_cases h2 : (ps.length : Int) < 1 ∨ (24 : Int) < (ps.length : Int) ∨ (24 : Int) < (ts.length : Int)
     · rw [if_pos h2] at h; simp at h
     · rw [if_neg h2] at h
       rcases first_cases (pF ps) (first (tF ps ts) (0, 0) ts.length) ps.length with ⟨a1, a2⟩ | ⟨j, a1, a2, _⟩
       · rw [a1] at h
         rcases first_cases (tF ps ts) ((0 : Int), (0 : Int)) ts.length with ⟨b1, b2⟩ | ⟨j, b1, b2, _⟩
         · exact ⟨h1, by omega, by omega, by omega, fun i hi => of_ite_none (a2 i hi), fun i hi => of_ite_none (b2 i hi)⟩
         · obtain ⟨c1, c2⟩ := of_ite_some b2
           rw [← c2] at h
           exact absurd (beq_iff_eq.1 h) c1
       · obtain ⟨c1, c2⟩ := of_ite_some a2
         rw [← c2] at h
         exact absurd (beq_iff_eq.1 h) c1
   · rw [if_neg h1] at h; simp at h
 · rintro ⟨h1, h2, h3, h4, h5, h6⟩
   rw [if_pos h1, if_neg (by omega), first_all (fun j hj => by unfold pF; rw [if_pos (h5 j hj)]), first_all (fun j hj => by unfold tF; rw [if_pos (h6 j hj)])]
   rfl
section
variable {nm : ByteArray} {ps : List Pla} {ts : List Tra} (h : ValidN nm ps ts)
include h
theorem ValidN.plName {i : Nat} (hi : i < ps.length) : nmE ((ps.take i).map (·.f0)) (ps.getD i zP).f0 = 0 ∧ placeE (ps.getD i zP).f1 (ps.getD i zP).f2 = 0 := by
 have := h.pl i hi
 unfold plR at this
 by_cases c : nmE ((ps.take i).map (·.f0)) (ps.getD i zP).f0 = 0
 · rw [if_neg (by simpa using c)] at this; exact ⟨c, this⟩
 · rw [if_pos c] at this; exact absurd this c
theorem ValidN.trName {i : Nat} (hi : i < ts.length) : nmE (ps.map (·.f0) ++ (ts.take i).map (·.f0)) (ts.getD i zT).f0 = 0 ∧ transE (ps.length : Int) (ts.getD i zT) = 0 := by
 have := h.tr i hi
 unfold trR at this
 by_cases c : nmE (ps.map (·.f0) ++ (ts.take i).map (·.f0)) (ts.getD i zT).f0 = 0
 · rw [if_neg (by simpa using c)] at this; exact ⟨c, this⟩
 · rw [if_pos c] at this; exact absurd this c
theorem ValidN.arcs {i : Nat} (hi : i < ts.length) : (0 ≤ (ts.getD i zT).f4 ∧ (ts.getD i zT).f4 ≤ 9) ∧ arcsE (ps.length : Int) (ts.getD i zT).f1 = 0 ∧ arcsE (ps.length : Int) (ts.getD i zT).f2 = 0 ∧ arcsE (ps.length : Int) (ts.getD i zT).f3 = 0 := by
 have := (h.trName hi).2
 unfold transE at this
 by_cases c : (ts.getD i zT).f4 < 0 ∨ (ts.getD i zT).f4 > 9
 · rw [if_pos c] at this; exact absurd this (by decide)
 · rw [if_neg c] at this
   by_cases c1 : arcsE (ps.length : Int) (ts.getD i zT).f1 = 0
   · rw [if_neg (by simpa using c1)] at this
     by_cases c2 : arcsE (ps.length : Int) (ts.getD i zT).f2 = 0
     · rw [if_neg (by simpa using c2)] at this; exact ⟨by omega, c1, c2, this⟩
     · rw [if_pos c2] at this; exact absurd this c2
   · rw [if_pos c1] at this; exact absurd this c1
end
theorem arcE_none {np : Int} {l : List Ac} {i : Nat} (h : arcE np l i = none) : 0 ≤ (l.getD i zA).f0 ∧ (l.getD i zA).f0 < np ∧ (0 < i → (l.getD (i - 1) zA).f0 < (l.getD i zA).f0) ∧ 1 ≤ (l.getD i zA).f1 ∧ (l.getD i zA).f1 ≤ 99 := by
 unfold arcE at h
 by_cases c1 : (l.getD i zA).f0 < 0 ∨ (l.getD i zA).f0 ≥ np
 · rw [if_pos c1] at h; cases h
 · rw [if_neg c1] at h
   by_cases c2 : 0 < i ∧ (l.getD (i - 1) zA).f0 ≥ (l.getD i zA).f0
   · rw [if_pos c2] at h; cases h
   · rw [if_neg c2] at h
     by_cases c3 : (l.getD i zA).f1 < 1 ∨ (l.getD i zA).f1 > 99
     · rw [if_pos c3] at h; cases h
     · exact ⟨by omega, by omega, fun hi => Int.not_le.1 fun hc => c2 ⟨hi, hc⟩, by omega, by omega⟩
theorem arcE_some {np : Int} {l : List Ac} {i : Nat} {r : Int} (h : arcE np l i = some r) : r ≠ 0 := by
 unfold arcE at h
 by_cases c1 : (l.getD i zA).f0 < 0 ∨ (l.getD i zA).f0 ≥ np
 · rw [if_pos c1] at h; cases h; decide
 · rw [if_neg c1] at h
   by_cases c2 : 0 < i ∧ (l.getD (i - 1) zA).f0 ≥ (l.getD i zA).f0
   · rw [if_pos c2] at h; cases h; decide
   · rw [if_neg c2] at h
     by_cases c3 : (l.getD i zA).f1 < 1 ∨ (l.getD i zA).f1 > 99
     · rw [if_pos c3] at h; cases h; decide
     · rw [if_neg c3] at h; cases h
theorem arcsE_zero {np : Int} {l : List Ac} (h : arcsE np l = 0) : ∀ i, i < l.length → 0 ≤ (l.getD i zA).f0 ∧ (l.getD i zA).f0 < np ∧ (0 < i → (l.getD (i - 1) zA).f0 < (l.getD i zA).f0) ∧ 1 ≤ (l.getD i zA).f1 ∧ (l.getD i zA).f1 ≤ 99 := by
 intro i hi
 unfold arcsE at h
 rcases first_cases (arcE np l) 0 l.length with ⟨_, h2⟩ | ⟨j, _, h2, _⟩
 · exact arcE_none (h2 i hi)
 · rw [h] at h2
   exact absurd rfl (arcE_some h2)
theorem arcs_lt {np : Int} {l : List Ac} (h : arcsE np l = 0) {i j : Nat} (hij : i < j) (hj : j < l.length) : (l.getD i zA).f0 < (l.getD j zA).f0 := by
 obtain ⟨d, rfl⟩ : ∃ d, j = i + 1 + d := ⟨j - (i + 1), by omega⟩
 induction d with
 | zero => have := (arcsE_zero h (i + 1) hj).2.2.1 (by omega); simpa using this
 | succ d ih =>
   have h1 := ih (by omega) (by omega)
   have h2 := (arcsE_zero h (i + 1 + (d + 1)) hj).2.2.1 (by omega)
   rw [show i + 1 + (d + 1) - 1 = i + 1 + d by omega] at h2
   omega
/-- The weight of a place in a list without errors: positive exactly for the places of the list. -/
theorem weight_pos {np : Int} {l : List Ac} (h : arcsE np l = 0) (p : Int) : weightS l p > 0 ↔ p ∈ l.map (·.f0) := by
 unfold weightS
 rcases first_cases (fun i => if (l.getD i zA).f0 = p then some (l.getD i zA).f1 else none) 0 l.length with ⟨h1, h2⟩ | ⟨j, h1, h2, _⟩
 · rw [h1]
   constructor
   · intro hh; exact absurd hh (by decide)
   · intro hm
     obtain ⟨a, ha, rfl⟩ := List.mem_map.1 hm
     obtain ⟨i, hi, rfl⟩ := List.getElem_of_mem ha
     have := h2 i hi
     rw [List.getD_eq_getElem?_getD, List.getElem?_eq_getElem hi] at this
     simp at this
 · by_cases c : (l.getD j zA).f0 = p
   · simp only [c, if_true] at h2
     have := arcsE_zero h j h1
     constructor
     · intro _; exact List.mem_map.2 ⟨_, getD_mem l zA h1, c⟩
     · intro _; rw [← Option.some.inj h2]; omega
   · simp only [c, if_false] at h2; cases h2
end Go.Proofs.Ytnoebjmhimehcaa.Pl
/- The flow graph of a net: what it is, and that the program's text answers it. -/
namespace Go.Proofs.Ytnoebjmhimehcaa.Pl
set_option linter.unusedVariables false
open Go.RowKit Go.Proofs.Ytnoebjmhimehcaa.P Go.Proofs.YtnoebjmhimehcaaW.PrintWords Go.Proofs.YtnoebjmhimehcaaW.PrintMore


/-- The row of node v when i transitions are told. -/
def fr (ts : List Tra) (K i v : Nat) : List Int :=
 if v < K then ((List.range i).filter (fun t : Nat => decide (weightS (ts.getD t zT).f1 (v : Int) > 0))).map (fun t : Nat => ((K + t : Nat) : Int)) else if v - K < i then (ts.getD (v - K) zT).f2.map (·.f0) else []
def f1 (ts : List Tra) (K i j v : Nat) : List Int := fr ts K i v ++ (if v < K ∧ (v : Int) ∈ ((ts.getD i zT).f1.take j).map (·.f0) then [((K + i : Nat) : Int)] else [])
def f2 (ts : List Tra) (K i j v : Nat) : List Int := if v = K + i then ((ts.getD i zT).f2.take j).map (·.f0) else f1 ts K i (ts.getD i zT).f1.length v
theorem fr_len (ts : List Tra) (K i v : Nat) (hv : v < K) : (fr ts K i v).length ≤ i := by
 unfold fr
 rw [if_pos hv, List.length_map]
 exact Nat.le_trans (List.length_filter_le _ _) (by rw [List.length_range]; exact Nat.le_refl _)
theorem f1_zero (ts : List Tra) (K i v : Nat) : f1 ts K i 0 v = fr ts K i v := by unfold f1; simp
theorem f1_succ {ts : List Tra} {K i j : Nat} {np : Int} (ha : arcsE np (ts.getD i zT).f1 = 0) (hj : j < (ts.getD i zT).f1.length) (p : Nat) (hp : ((ts.getD i zT).f1.getD j zA).f0 = (p : Int)) (hk : p < K) (v : Nat) :
   f1 ts K i (j + 1) v = if v = p then f1 ts K i j p ++ [((K + i : Nat) : Int)] else f1 ts K i j v := by
 have hn : ∀ m, m < j → ((ts.getD i zT).f1.getD m zA).f0 ≠ (p : Int) := fun m hm e => by
   have := arcs_lt ha hm hj
   rw [hp, e] at this
   omega
 have hno : (p : Int) ∉ ((ts.getD i zT).f1.take j).map (·.f0) := fun hm => by
   obtain ⟨a, ha, e⟩ := List.mem_map.1 hm
   obtain ⟨m, hm, rfl⟩ := List.mem_take_iff_getElem.1 ha
   refine hn m (by omega) ?_
   rw [List.getD_eq_getElem?_getD, List.getElem?_eq_getElem (by omega)]
   exact e
 unfold f1
 rw [take_map_succ _ _ zA hj, hp]
 by_cases e : v = p
 · subst e
   rw [if_pos rfl, if_pos ⟨hk, by simp⟩, if_neg (fun h => hno h.2), List.append_nil]
 · rw [if_neg e]
   congr 1
   have : (v : Int) ∈ ((ts.getD i zT).f1.take j).map (·.f0) ++ [(p : Int)] ↔ (v : Int) ∈ ((ts.getD i zT).f1.take j).map (·.f0) := by
     rw [List.mem_append, List.mem_singleton]
     exact ⟨fun h => h.elim id (fun h => absurd h (by omega)), Or.inl⟩
   simp only [this]
theorem f2_last {ts : List Tra} {K i : Nat} {np : Int} (ha : arcsE np (ts.getD i zT).f1 = 0) (v : Nat) : f2 ts K i (ts.getD i zT).f2.length v = fr ts K (i + 1) v := by
 unfold f2 f1
 rw [List.take_length, List.take_length]
 by_cases e : v = K + i
 · subst e
   rw [if_pos rfl]
   unfold fr
   rw [if_neg (by omega), if_pos (by omega), show K + i - K = i by omega]
 · rw [if_neg e]
   unfold fr
   by_cases h : v < K
   · rw [if_pos h, if_pos h, filter_range_succ]
     have hw := weight_pos ha (v : Int)
     by_cases c : weightS (ts.getD i zT).f1 (v : Int) > 0
     · rw [if_pos ⟨h, hw.1 c⟩, if_pos (decide_eq_true c), List.map_append]; rfl
     · rw [if_neg (fun x => c (hw.2 x.2)), if_neg (by simpa using c), List.append_nil]
   · simp only [h, false_and, if_false, List.append_nil]
     by_cases h2 : v - K < i
     · rw [if_pos h2, if_pos (by omega)]
     · rw [if_neg h2, if_neg (by omega)]
def flowS (v : Bool) (ps : List Pla) (ts : List Tra) : List (List Int) := if v = true then mr (ps.length + ts.length) (fr ts ps.length ts.length) else []
theorem flow_ev (nm : ByteArray) {ps : List Pla} {ts : List Tra} (hT : Thin ts) : Ev (fun k => netclass_Flow.f k nm ps ts) (flowS (validS nm ps ts) ps ts) := by
 unfold netclass_Flow.f flowS
 refine Ev.bind (nvalid_ev nm hT) ?_
 by_cases hv : validS nm ps ts = true
 · have V := validS_iff.1 hv
   have hp := V.p
   have ht := V.t
   simp only [hv, ↓reduceIte]
   rw [wrap_ok (by omega) (by omega)]
   refine Ev.congr (f := fun k => netclass_Flow.l0 k (ps.length : Int) (mr (ps.length + ts.length) (fr ts ps.length 0)) ts (ts.length : Int) ((0 : Nat) : Int)) (fun k => by
     rw [if_pos (by omega), if_pos (by omega), show (((ps.length : Int) + (ts.length : Int)) : Int).toNat = ps.length + ts.length by omega, mr_rep, mr_congr (g := fr ts ps.length 0) (fun v _ => by unfold fr; simp)]; rfl) ?_
   refine Ev_up (L := fun k i => netclass_Flow.l0 k (ps.length : Int) (mr (ps.length + ts.length) (fr ts ps.length i)) ts (ts.length : Int) (i : Int)) (n := ts.length) (fun i hi hr => ?_) (Ev.one (fun k => by simp only [netclass_Flow.l0]; rw [if_neg (by omega)]))
   obtain ⟨_, ha1, ha2, _⟩ := V.arcs hi
   have l1 := (hT.at hi).2.1
   have l2 := (hT.at hi).2.2.1
   have hK := Aside0.mk (show wrap64 ((ps.length : Int) + (i : Int)) = ((ps.length + i : Nat) : Int) by rw [wrap_ok (by omega) (by omega)]; omega)
   refine Ev.step (f := fun k => netclass_Flow.l1 k (ps.length : Int) (mr (ps.length + ts.length) (f1 ts ps.length i 0)) (i : Int) ts (ts.length : Int) (i : Int) (ts.getD i zT).f1 ((ts.getD i zT).f1.length : Int) ((0 : Nat) : Int) (ts.getD i zT).f0 (ts.getD i zT).f1 (ts.getD i zT).f2 (ts.getD i zT).f3 (ts.getD i zT).f4) (fun k => by
     simp only [netclass_Flow.l0]
     rw [if_pos (by omega), if_pos (by omega), if_pos (by omega), rdT, mr_congr (g := f1 ts ps.length i 0) (fun v _ => (f1_zero _ _ _ _).symm)]; rfl) ?_
   refine Ev_up (L := fun k j => netclass_Flow.l1 k (ps.length : Int) (mr (ps.length + ts.length) (f1 ts ps.length i j)) (i : Int) ts (ts.length : Int) (i : Int) (ts.getD i zT).f1 ((ts.getD i zT).f1.length : Int) (j : Int) (ts.getD i zT).f0 (ts.getD i zT).f1 (ts.getD i zT).f2 (ts.getD i zT).f3 (ts.getD i zT).f4) (n := (ts.getD i zT).f1.length) (fun j hj hr1 => ?_) ?_
   · obtain ⟨a0, a1, _, _, _⟩ := arcsE_zero ha1 j hj
     obtain ⟨p, hpp⟩ : ∃ p : Nat, ((ts.getD i zT).f1.getD j zA).f0 = (p : Int) := ⟨_, (Int.toNat_of_nonneg a0).symm⟩
     have hpk : p < ps.length := by omega
     have hlen : (f1 ts ps.length i j p).length ≤ i + 1 := by
       unfold f1
       have := fr_len ts ps.length i p hpk
       rw [List.length_append]
       split <;> simp <;> omega
     refine Ev.step (fun k => ?_) hr1
     simp only [netclass_Flow.l1]
     rw [if_pos (by omega), if_pos (by omega), if_pos (by omega), rdA, hpp, if_pos (by omega), if_pos (by rw [mr_len]; omega), rdL, mr_get _ _ (by omega), if_pos (by omega), Int.toNat_natCast, hK.out, mr_set, wrap_up hj (by omega), mr_congr (f := f1 ts ps.length i (j + 1)) (fun v _ => f1_succ ha1 hj p hpp hpk v)]
   · refine Ev.step (f := fun k => netclass_Flow.l2 k (ps.length : Int) (mr (ps.length + ts.length) (f2 ts ps.length i 0)) (i : Int) ts (ts.length : Int) (i : Int) (ts.getD i zT).f2 ((ts.getD i zT).f2.length : Int) ((0 : Nat) : Int)) (fun k => by
       simp only [netclass_Flow.l1]
       rw [if_neg (by omega), mr_congr (g := f2 ts ps.length i 0) (fun v _ => by
         unfold f2 f1 fr
         by_cases e : v = ps.length + i
         · subst e; rw [if_pos rfl, if_neg (by omega), if_neg (by omega), if_neg (by omega)]; rfl
         · rw [if_neg e])]; rfl) ?_
     refine Ev_up (L := fun k j => netclass_Flow.l2 k (ps.length : Int) (mr (ps.length + ts.length) (f2 ts ps.length i j)) (i : Int) ts (ts.length : Int) (i : Int) (ts.getD i zT).f2 ((ts.getD i zT).f2.length : Int) (j : Int)) (n := (ts.getD i zT).f2.length) (fun j hj hr1 => ?_) ?_
     · refine Ev.step (fun k => ?_) hr1
       have e2 : f2 ts ps.length i j (ps.length + i) = ((ts.getD i zT).f2.take j).map (·.f0) := by unfold f2; rw [if_pos rfl]
       simp only [netclass_Flow.l2]
       rw [if_pos (by omega), if_pos (by omega), if_pos (by omega), rdA, hK.out, if_pos (by omega), if_pos (by rw [mr_len]; omega), rdL, mr_get _ _ (by omega), e2, if_pos (by rw [List.length_map, List.length_take]; omega), Int.toNat_natCast, mr_set, wrap_up hj (by omega), ← take_map_succ _ (fun a : Ac => a.f0) zA hj, mr_congr (f := f2 ts ps.length i (j + 1)) (fun v _ => show _ = if v = ps.length + i then _ else f2 ts ps.length i j v by unfold f2; split <;> rfl)]
     · refine Ev.step (fun k => ?_) hr
       simp only [netclass_Flow.l2]
       rw [if_neg (by omega), wrap_up hi (by omega), mr_congr (f := f2 ts ps.length i _) (fun v _ => f2_last ha1 v)]
 · simp only [hv]; exact Ev.some _
end Go.Proofs.Ytnoebjmhimehcaa.Pl
/- The flow graph of a valid net is small. -/
namespace Go.Proofs.Ytnoebjmhimehcaa.Pl
set_option linter.unusedVariables false
open Go.RowKit Go.Proofs.Ytnoebjmhimehcaa.P Go.Proofs.YtnoebjmhimehcaaW.PrintWords Go.Proofs.YtnoebjmhimehcaaW.PrintMore

theorem flow_len {v : Bool} {ps : List Pla} {ts : List Tra} (hv : v = true) : (flowS v ps ts).length = ps.length + ts.length := by unfold flowS; rw [if_pos hv, mr_len]
theorem flow_row {v : Bool} {ps : List Pla} {ts : List Tra} (hv : v = true) {x : Nat} (hx : x < ps.length + ts.length) : (flowS v ps ts).getD x [] = fr ts ps.length ts.length x := by unfold flowS; rw [if_pos hv, mr_get _ _ hx]
theorem arcs_bound {np : Nat} {l : List Ac} (h : arcsE (np : Int) l = 0) : l.length ≤ np := by
 refine Nat.le_of_not_lt fun hlt => ?_
 have : ∀ i, i < l.length → (i : Int) ≤ (l.getD i zA).f0 := by
   intro i
   induction i with
   | zero => intro hi; exact (arcsE_zero h 0 hi).1
   | succ i ih =>
     intro hi
     have h1 := ih (by omega)
     have h2 := (arcsE_zero h (i + 1) hi).2.2.1 (by omega)
     rw [show i + 1 - 1 = i by omega] at h2
     omega
 have h1 := this np hlt
 have h2 := (arcsE_zero h np hlt).2.1
 omega
theorem flow_few {nm : ByteArray} {ps : List Pla} {ts : List Tra} (V : ValidN nm ps ts) : (flowS true ps ts).length ≤ 320 ∧ ∀ u, u < (flowS true ps ts).length → ((flowS true ps ts).getD u []).length ≤ 600 := by
 have hp := V.p
 have ht := V.t
 rw [flow_len rfl]
 refine ⟨by omega, fun u hu => ?_⟩
 rw [flow_row rfl hu]
 by_cases h : u < ps.length
 · have := fr_len ts ps.length ts.length u h; omega
 · unfold fr
   rw [if_neg h, if_pos (by omega), List.length_map]
   have := arcs_bound (V.arcs (i := u - ps.length) (by omega)).2.2.1
   omega
end Go.Proofs.Ytnoebjmhimehcaa.Pl
/- The flow graph of a net: the reference's text. -/
namespace Go.Proofs.Ytnoebjmhimehcaa.Pl
set_option linter.unusedVariables false
open Go.RowKit Go.Proofs.Ytnoebjmhimehcaa.P Go.Proofs.YtnoebjmhimehcaaW.PrintWords Go.Proofs.YtnoebjmhimehcaaW.PrintMore

theorem flow_split (ps : List Pla) (ts : List Tra) : mr (ps.length + ts.length) (fr ts ps.length ts.length) = mr ps.length (fr ts ps.length ts.length) ++ mr ts.length (fun t => (ts.getD t zT).f2.map (·.f0)) := by
 unfold mr
 rw [List.range_add, List.map_append, List.map_map]
 congr 1
 refine List.map_congr_left fun v hv => ?_
 have := List.mem_range.1 hv
 show fr ts ps.length ts.length (ps.length + v) = _
 unfold fr
 rw [if_neg (by omega), if_pos (by omega), show ps.length + v - ps.length = v by omega]
def rowAt (ts : List Tra) (K p i : Nat) : List Int := ((List.range i).filter (fun t : Nat => decide (weightS (ts.getD t zT).f1 (p : Int) > 0))).map (fun t : Nat => ((K + t : Nat) : Int))
theorem rowAt_len (ts : List Tra) (K p i : Nat) : (rowAt ts K p i).length ≤ i := by
 unfold rowAt
 rw [List.length_map]
 exact Nat.le_trans (List.length_filter_le _ _) (by rw [List.length_range]; exact Nat.le_refl _)
theorem rowAt_succ (ts : List Tra) (K p i : Nat) : rowAt ts K p (i + 1) = if weightS (ts.getD i zT).f1 (p : Int) > 0 then rowAt ts K p i ++ [((K + i : Nat) : Int)] else rowAt ts K p i := by
 unfold rowAt
 rw [filter_range_succ]
 by_cases c : weightS (ts.getD i zT).f1 (p : Int) > 0
 · rw [if_pos (decide_eq_true c), if_pos c, List.map_append]; rfl
 · rw [if_neg (by simpa using c), if_neg c]
theorem refflow_ev (nm : ByteArray) {ps : List Pla} {ts : List Tra} (hT : Thin ts) : Ev (fun k => r13_Flow.f k nm ps ts) (flowS (validS nm ps ts) ps ts) := by
 unfold r13_Flow.f flowS
 refine Ev.bind (refvalid_ev nm hT) ?_
 by_cases hv : validS nm ps ts = true
 · have V := validS_iff.1 hv
   have hp := V.p
   have ht := V.t
   simp only [hv, ↓reduceIte]
   rw [flow_split]
   have h2 : Ev (fun k => r13_Flow.l2 k (mr ps.length (fr ts ps.length ts.length) ++ mr 0 (fun t => (ts.getD t zT).f2.map (·.f0))) ((0 : Nat) : Int) nm ps ts) (mr ps.length (fr ts ps.length ts.length) ++ mr ts.length (fun t => (ts.getD t zT).f2.map (·.f0))) := by
     refine Ev_up (L := fun k i => r13_Flow.l2 k (mr ps.length (fr ts ps.length ts.length) ++ mr i (fun t => (ts.getD t zT).f2.map (·.f0))) (i : Int) nm ps ts) (n := ts.length) (fun i hi hr => ?_) (Ev.one (fun k => by simp only [r13_Flow.l2]; rw [if_neg (by omega)]))
     refine Ev.step (fun k => by simp only [r13_Flow.l2]; rw [if_pos (by omega), if_pos (by omega), rdT, wrap_up hi (by omega)]) ?_
     refine Ev.bind (reftargets_ev _ (hT.at hi).2.2.1) ?_
     refine Ev.congr (fun k => by rw [if_pos (by rw [List.length_append, mr_len, mr_len]; omega), List.append_assoc, ← mr_snoc i (fun t => (ts.getD t zT).f2.map (·.f0))]) hr
   refine Ev_up (L := fun k p => r13_Flow.l0 k (mr p (fr ts ps.length ts.length)) (p : Int) nm ps ts) (n := ps.length) (fun p hp' hr => ?_) (Ev.step (fun k => by simp only [r13_Flow.l0]; rw [if_neg (by omega)]) (by simpa [mr] using h2))
   refine Ev.step (f := fun k => r13_Flow.l1 k (mr p (fr ts ps.length ts.length)) (p : Int) (rowAt ts ps.length p 0) ((0 : Nat) : Int) nm ps ts) (fun k => by simp only [r13_Flow.l0]; rw [if_pos (by omega)]; rfl) ?_
   refine Ev_up (L := fun k t => r13_Flow.l1 k (mr p (fr ts ps.length ts.length)) (p : Int) (rowAt ts ps.length p t) (t : Int) nm ps ts) (n := ts.length) (fun t ht' hr1 => ?_) (Ev.step (fun k => by
     simp only [r13_Flow.l1]
     rw [if_neg (by omega), if_pos (by rw [mr_len]; omega), wrap_up hp' (by omega), show mr p (fr ts ps.length ts.length) ++ [rowAt ts ps.length p ts.length] = mr (p + 1) (fr ts ps.length ts.length) by
       rw [mr_snoc]; unfold fr rowAt; rw [if_pos (by omega)]]) hr)
   refine Ev.step (fun k => by simp only [r13_Flow.l1]; rw [if_pos (by omega), if_pos (by omega), rdT, wrap_up ht' (by omega), wrap_ok (x := (ps.length : Int) + (t : Int)) (by omega) (by omega), show ((ps.length : Int) + (t : Int)) = ((ps.length + t : Nat) : Int) by omega]) ?_
   refine Ev.bind (refweight_ev _ (p : Int) (hT.at ht').2.1) ?_
   rw [rowAt_succ] at hr1
   have hl := rowAt_len ts ps.length p t
   by_cases c : weightS (ts.getD t zT).f1 (p : Int) > 0
   · rw [if_pos c] at hr1
     exact Ev.congr (fun k => by rw [if_pos c, if_pos (by omega)]) hr1
   · rw [if_neg c] at hr1
     exact Ev.congr (fun k => by rw [if_neg c]) hr1
 · simp only [hv]; exact Ev.some _
end Go.Proofs.Ytnoebjmhimehcaa.Pl
/- Plain graph theory over lists of successors: walks by length, walks through the first m vertices, shortest distances. -/
namespace Go.Proofs.Ytnoebjmhimehcaa.Pl
open Go.RowKit Go.Proofs.YtnoebjmhimehcaaW.PrintWords Go.Proofs.YtnoebjmhimehcaaW.PrintMore

/-- An edge between vertices. -/
def Ed (g : List (List Int)) (u v : Nat) : Prop := u < g.length ∧ v < g.length ∧ (v : Int) ∈ g.getD u []
/-- A walk of length k. -/
def Wk (g : List (List Int)) : Nat → Nat → Nat → Prop
 | 0, u, v => u = v ∧ u < g.length
 | k + 1, u, v => ∃ w, Ed g u w ∧ Wk g k w v
def R (g : List (List Int)) (u v : Nat) : Prop := ∃ k, Wk g k u v
def Rp (g : List (List Int)) (u v : Nat) : Prop := ∃ k, Wk g (k + 1) u v

section
variable {g : List (List Int)}
theorem Wk.lt : ∀ {k u v}, Wk g k u v → u < g.length ∧ v < g.length
 | 0, u, v, h => by obtain ⟨rfl, h⟩ := h; exact ⟨h, h⟩
 | k + 1, u, v, h => by obtain ⟨w, h1, h2⟩ := h; exact ⟨h1.1, (Wk.lt h2).2⟩
theorem Wk.add : ∀ {a b u v w}, Wk g a u v → Wk g b v w → Wk g (a + b) u w
 | 0, b, u, v, w, h, k => by obtain ⟨rfl, _⟩ := h; rw [Nat.zero_add]; exact k
 | a + 1, b, u, v, w, h, k => by
   obtain ⟨x, h1, h2⟩ := h
   rw [show a + 1 + b = (a + b) + 1 by omega]
   exact ⟨x, h1, Wk.add h2 k⟩
theorem Wk.one {u v : Nat} (h : Ed g u v) : Wk g 1 u v := ⟨v, h, rfl, h.2.1⟩
theorem Wk.split : ∀ {a b u w}, Wk g (a + b) u w → ∃ v, Wk g a u v ∧ Wk g b v w
 | 0, b, u, w, h => by rw [Nat.zero_add] at h; exact ⟨u, ⟨rfl, h.lt.1⟩, h⟩
 | a + 1, b, u, w, h => by
   rw [show a + 1 + b = (a + b) + 1 by omega] at h
   obtain ⟨x, h1, h2⟩ := h
   obtain ⟨v, h3, h4⟩ := Wk.split h2
   exact ⟨v, ⟨x, h1, h3⟩, h4⟩
theorem R.refl {u : Nat} (h : u < g.length) : R g u u := ⟨0, rfl, h⟩
theorem R.trans {u v w : Nat} (h : R g u v) (k : R g v w) : R g u w := by
 obtain ⟨a, h⟩ := h
 obtain ⟨b, k⟩ := k
 exact ⟨a + b, h.add k⟩
theorem R.edge {u v : Nat} (h : Ed g u v) : R g u v := ⟨1, Wk.one h⟩
theorem R.lt {u v : Nat} (h : R g u v) : u < g.length ∧ v < g.length := by obtain ⟨k, h⟩ := h; exact h.lt
theorem Rp.toR {u v : Nat} (h : Rp g u v) : R g u v := by obtain ⟨k, h⟩ := h; exact ⟨_, h⟩
theorem R_iff {u v : Nat} : R g u v ↔ (u = v ∧ u < g.length) ∨ Rp g u v := by
 constructor
 · rintro ⟨k, h⟩
   cases k with
   | zero => exact .inl h
   | succ k => exact .inr ⟨k, h⟩
 · rintro (⟨rfl, h⟩ | h)
   · exact R.refl h
   · exact h.toR
theorem Rp.trans {u v w : Nat} (h : Rp g u v) (k : Rp g v w) : Rp g u w := by
 obtain ⟨a, h⟩ := h
 obtain ⟨b, k⟩ := k
 refine ⟨a + 1 + b, ?_⟩
 have := h.add k
 rwa [show a + 1 + (b + 1) = a + 1 + b + 1 by omega] at this

/-- A set that holds the start and with each vertex its successors holds all that can be reached. -/
theorem R.closed {p : Nat → Prop} (hs : ∀ u v, p u → Ed g u v → p v) {u v : Nat} (h : R g u v) (hu : p u) : p v := by
 obtain ⟨k, h⟩ := h
 induction k generalizing u with
 | zero => obtain ⟨rfl, _⟩ := h; exact hu
 | succ k ih => obtain ⟨w, h1, h2⟩ := h; exact ih (hs u w hu h1) h2

/-! ### through the first m vertices -/
inductive Via (g : List (List Int)) (m : Nat) : Nat → Nat → Prop
 | edge {u v : Nat} : Ed g u v → Via g m u v
 | join {u w v : Nat} : w < m → Via g m u w → Via g m w v → Via g m u v
theorem Via.up {m u v : Nat} (h : Via g m u v) : Via g (m + 1) u v := by
 induction h with
 | edge h => exact .edge h
 | join hw _ _ h1 h2 => exact .join (by omega) h1 h2
theorem Via.succ {m u v : Nat} : Via g (m + 1) u v ↔ Via g m u v ∨ (Via g m u m ∧ Via g m m v) := by
 constructor
 · intro h
   induction h with
   | edge h => exact .inl (.edge h)
   | @join u w v hw _ _ h1 h2 =>
     by_cases e : w = m
     · subst e
       have a1 : Via g w u w := h1.elim id (fun h => h.1)
       have a2 : Via g w w v := h2.elim id (fun h => h.2)
       exact .inr ⟨a1, a2⟩
     · have hw' : w < m := by omega
       rcases h1 with h1 | h1 <;> rcases h2 with h2 | h2
       · exact .inl (.join hw' h1 h2)
       · exact .inr ⟨.join hw' h1 h2.1, h2.2⟩
       · exact .inr ⟨h1.1, .join hw' h1.2 h2⟩
       · exact .inr ⟨h1.1, h2.2⟩
 · rintro (h | ⟨h1, h2⟩)
   · exact h.up
   · exact .join (Nat.lt_succ_self _) h1.up h2.up
theorem Via.zero {u v : Nat} : Via g 0 u v ↔ Ed g u v := by
 constructor
 · intro h
   cases h with
   | edge h => exact h
   | join hw _ _ => omega
 · exact .edge
theorem Via.all {u v : Nat} : Via g g.length u v ↔ Rp g u v := by
 constructor
 · intro h
   induction h with
   | edge h => exact ⟨0, Wk.one h⟩
   | join _ _ _ h1 h2 => exact h1.trans h2
 · rintro ⟨k, h⟩
   induction k generalizing u with
   | zero => obtain ⟨w, h1, rfl, _⟩ := h; exact .edge h1
   | succ k ih => obtain ⟨w, h1, h2⟩ := h; exact .join h1.2.1 (.edge h1) (ih h2)

/-! ### a list without repetitions below n has at most n elements -/
theorem nodup_le : ∀ (n : Nat) (l : List Nat), l.Nodup → (∀ x ∈ l, x < n) → l.length ≤ n
 | 0, l, _, h => by
   cases l with
   | nil => simp
   | cons a l => exact absurd (h a (by simp)) (by omega)
 | n + 1, l, hd, h => by
   by_cases hn : n ∈ l
   · have h1 := nodup_le n (l.erase n) (hd.erase n) (fun x hx => by
       have h2 := h x (List.mem_of_mem_erase hx)
       have h3 : x ≠ n := fun e => by subst e; exact (List.Nodup.not_mem_erase hd) hx
       omega)
     rw [List.length_erase_of_mem hn] at h1
     omega
   · have := nodup_le n l hd (fun x hx => by
       have h2 := h x hx
       have h3 : x ≠ n := fun e => hn (e ▸ hx)
       omega)
     omega

/-! ### shortest distances to a vertex -/
def Near (g : List (List Int)) (k u t : Nat) : Prop := Wk g k u t ∧ ∀ j, j < k → ¬ Wk g j u t
theorem Near.uniq {a b u t : Nat} (h : Near g a u t) (k : Near g b u t) : a = b := by
 rcases Nat.lt_trichotomy a b with h1 | h1 | h1
 · exact absurd h.1 (k.2 a h1)
 · exact h1
 · exact absurd k.1 (h.2 b h1)
theorem Near.next {k u t : Nat} (h : Near g (k + 1) u t) : ∃ w, Ed g u w ∧ Near g k w t := by
 obtain ⟨⟨w, h1, h2⟩, h3⟩ := h
 exact ⟨w, h1, h2, fun j hj hw => h3 (j + 1) (by omega) ⟨w, h1, hw⟩⟩
/-- On the way there is a vertex at each smaller distance. -/
theorem Near.down {t : Nat} : ∀ {k u : Nat}, Near g k u t → ∃ l : List Nat, l.Nodup ∧ l.length = k + 1 ∧ ∀ x ∈ l, ∃ j, j ≤ k ∧ Near g j x t
 | 0, u, h => ⟨[u], by simp, rfl, fun x hx => by simp at hx; subst hx; exact ⟨0, Nat.le_refl _, h⟩⟩
 | k + 1, u, h => by
   obtain ⟨w, _, hw⟩ := h.next
   obtain ⟨l, h1, h2, h3⟩ := Near.down hw
   refine ⟨u :: l, List.nodup_cons.2 ⟨fun hu => ?_, h1⟩, by simp [h2], fun x hx => ?_⟩
   · obtain ⟨j, hj, hn⟩ := h3 u hu
     have := hn.uniq h
     omega
   · rcases List.mem_cons.1 hx with rfl | hx
     · exact ⟨k + 1, Nat.le_refl _, h⟩
     · obtain ⟨j, hj, hn⟩ := h3 x hx
       exact ⟨j, by omega, hn⟩
theorem Near.lt {k u t : Nat} (h : Near g k u t) : k < g.length := by
 obtain ⟨l, h1, h2, h3⟩ := h.down
 have := nodup_le g.length l h1 (fun x hx => by obtain ⟨j, _, hn⟩ := h3 x hx; exact hn.1.lt.1)
 omega
end
end Go.Proofs.Ytnoebjmhimehcaa.Pl
/- What small functions of the graphs' law answer. -/
namespace Go.Proofs.Ytnoebjmhimehcaa.Pl
open Go.RowKit Go.Proofs.Ytnoebjmhimehcaa.P Go.Proofs.YtnoebjmhimehcaaW.PrintWords Go.Proofs.YtnoebjmhimehcaaW.PrintMore

theorem rdB (xs : List (List Bool)) (i : Nat) : rd_L13 xs (i : Int) = xs.getD i [] := by simp [rd_L13]

/-! ### few -/
def Few (g : List (List Int)) : Prop := g.length ≤ 320 ∧ ∀ u, u < g.length → (g.getD u []).length ≤ 1000
end Go.Proofs.Ytnoebjmhimehcaa.Pl
/- Reachability: the search over a stack. -/
namespace Go.Proofs.Ytnoebjmhimehcaa.Pl
open Go.RowKit Go.Proofs.Ytnoebjmhimehcaa.P Go.Proofs.YtnoebjmhimehcaaW.PrintWords Go.Proofs.YtnoebjmhimehcaaW.PrintMore
theorem cnt_set' {α : Type} (p : α → Bool) : ∀ (l : List α) (i : Nat) (x d : α), i < l.length → (l.set i x).countP p + (if p (l.getD i d) then 1 else 0) = l.countP p + (if p x then 1 else 0)
 | [], i, x, d, h => absurd h (by simp)
 | a :: l, 0, x, d, h => by simp [List.countP_cons]; omega
 | a :: l, i + 1, x, d, h => by
   have := cnt_set' p l i x d (by simpa using h)
   simp only [List.set_cons_succ, List.countP_cons, List.getD_cons_succ]
   omega
section
variable {g : List (List Int)}
/-- Reached from one of the first i numbers of the list. -/
def From (g : List (List Int)) (xs : List Int) (i v : Nat) : Prop := ∃ j s : Nat, j < i ∧ rd xs (j : Int) = (s : Int) ∧ R g s v
def IsReach (g : List (List Int)) (xs : List Int) (out : List Bool) : Prop := out.length = g.length ∧ ∀ v, v < g.length → (out.getD v false = true ↔ From g xs xs.length v)
theorem IsReach.uniq {xs : List Int} {a b : List Bool} (h : IsReach g xs a) (k : IsReach g xs b) : a = b := by
 refine ext_rdOf false (h.1.trans k.1.symm) (fun i hi => ?_)
 rw [rdOf_nat, rdOf_nat]
 have hi' : i < g.length := by rw [← h.1]; exact hi
 exact Bool.eq_iff_iff.2 ((h.2 i hi').trans (k.2 i hi').symm)
/-! ### the search over a stack -/
def tr (b : Bool) : Bool := !b
/-- S: what may be marked; pend: the vertex whose list is gone through. -/
structure RC (g : List (List Int)) (S : Nat → Prop) (pend : Nat → Prop) (M : Nat) (out : List Bool) (todo : List Int) : Prop where
 len : out.length = g.length
 tin : ∀ a ∈ todo, ∃ x : Nat, a = (x : Int) ∧ x < g.length ∧ out.getD x false = true
 sound : ∀ y, y < g.length → out.getD y false = true → S y
 closed : ∀ y, y < g.length → out.getD y false = true → (y : Int) ∈ todo ∨ pend y ∨ ∀ z, Ed g y z → out.getD z false = true
 size : 2 * out.countP tr + todo.length ≤ M
theorem visit_go {S pend : Nat → Prop} {M : Nat} {out : List Bool} {todo : List Int} (h : RC g S pend M out todo) (hM : M ≤ 100000) (w : Int) (hw : ∀ x : Nat, w = (x : Int) → x < g.length → S x) :
   ∃ p : List Bool × List Int, visitM g out todo w = some p ∧ RC g S pend M p.1 p.2 ∧ (∀ x : Nat, w = (x : Int) → x < g.length → p.1.getD x false = true) ∧ (∀ y, out.getD y false = true → p.1.getD y false = true) := by
 obtain ⟨len, tin, sound, closed, size⟩ := h
 by_cases c : 0 ≤ w ∧ w < (g.length : Int)
 · obtain ⟨c0, c1⟩ := c
   obtain ⟨x, rfl⟩ : ∃ x : Nat, w = (x : Int) := ⟨w.toNat, by omega⟩
   have hx : x < g.length := by omega
   by_cases d : out.getD x false = true
   · refine ⟨(out, todo), ?_, ⟨len, tin, sound, closed, size⟩, fun y hy _ => by rw [show y = x by omega]; exact d, fun y h => h⟩
     unfold visitM
     rw [if_pos c0, if_pos c1, rdOf_nat, if_pos d]
   · have d' : out.getD x false = false := by simpa using d
     have hg : ∀ y, (out.set x true).getD y false = if y = x then true else out.getD y false := fun y => getD_set _ _ _ _ _ (by omega)
     have hc : (out.set x true).countP tr + 1 = out.countP tr := by
       have := cnt_set' tr out x true false (by omega)
       rw [d'] at this
       simp [tr] at this
       exact this
     have hmono : ∀ y, out.getD y false = true → (out.set x true).getD y false = true := fun y h => by
       rw [hg]; split
       · rfl
       · exact h
     refine ⟨(out.set x true, todo ++ [(x : Int)]), ?_, ⟨by rw [List.length_set]; exact len, fun a ha => ?_, fun y hy h => ?_, fun y hy h => ?_, ?_⟩, fun y hy _ => ?_, hmono⟩
     · unfold visitM
       rw [if_pos c0, if_pos c1, rdOf_nat, if_neg d, if_pos (by omega), Int.toNat_natCast]
     · rcases List.mem_append.1 ha with ha | ha
       · obtain ⟨y, h1, h2, h3⟩ := tin a ha
         exact ⟨y, h1, h2, hmono y h3⟩
       · simp at ha
         exact ⟨x, ha, hx, by rw [hg, if_pos rfl]⟩
     · rw [hg] at h
       by_cases e : y = x
       · subst e; exact hw y rfl hy
       · rw [if_neg e] at h; exact sound y hy h
     · by_cases e : y = x
       · exact .inl (by rw [e]; simp)
       · rw [hg, if_neg e] at h
         rcases closed y hy h with h | h | h
         · exact .inl (List.mem_append.2 (.inl h))
         · exact .inr (.inl h)
         · exact .inr (.inr fun z hz => hmono z (h z hz))
     · rw [List.length_append]
       simp
       omega
     · have : y = x := by omega
       rw [this, hg, if_pos rfl]
 · refine ⟨(out, todo), ?_, ⟨len, tin, sound, closed, size⟩, fun y hy h => absurd (by omega) c, fun y h => h⟩
   unfold visitM
   by_cases c0 : 0 ≤ w
   · rw [if_pos c0, if_neg (fun c1 => c ⟨c0, c1⟩)]
   · rw [if_neg c0]
theorem reach_loop (hf : Few g) {S : Nat → Prop} (hS : ∀ u v, S u → Ed g u v → S v) : ∀ (M : Nat) (out : List Bool) (todo : List Int), RC g S (fun _ => False) M out todo → M ≤ 100000 →
   ∃ o, Ev (fun k => digraph_Reach.l1 k g out todo) o ∧ RC g S (fun _ => False) M o [] ∧ ∀ y, out.getD y false = true → o.getD y false = true := by
 intro M
 induction M using Nat.strongRecOn with
 | _ M ih =>
 intro out todo h hM
 by_cases c : 0 < (todo.length : Int)
 · obtain ⟨v, hv, hvg, hvo⟩ := h.tin _ (rd_mem (xs := todo) (i := (todo.length : Int) - 1) (by omega) (by omega))
   have hsz := h.size
   have h20 := hf.2 v hvg
   have hdrop : todo = todo.take (todo.length - 1) ++ [(v : Int)] := by
     have e1 := List.take_append_drop (todo.length - 1) todo
     have e2 : todo.drop (todo.length - 1) = [(v : Int)] := by
       rw [List.drop_eq_getElem_cons (by omega), List.drop_eq_nil_of_le (by omega)]
       congr 1
       rw [← hv, show (todo.length : Int) - 1 = ((todo.length - 1 : Nat) : Int) by omega, rd_nat, List.getD_eq_getElem?_getD, List.getElem?_eq_getElem (by omega)]
       rfl
     rw [e2] at e1
     exact e1.symm
   obtain ⟨p, ⟨hp, hpm, hprog⟩, hk⟩ := Ev_for (l := fun k (p : List Bool × List Int) i => digraph_Reach.l2 k g p.1 p.2 (g.getD v []) i) (n := (g.getD v []).length)
     (inv := fun i p => RC g S (fun y => y = v) (M - 1) p.1 p.2 ∧ (∀ y, out.getD y false = true → p.1.getD y false = true) ∧ ∀ j, j < i → ∀ x : Nat, rd (g.getD v []) (j : Int) = (x : Int) → x < g.length → p.1.getD x false = true)
     (fun i p hi ⟨hp, hpm, hprog⟩ => by
       obtain ⟨q, hq1, hq2, hq3, hq4⟩ := visit_go hp (by omega) (rd (g.getD v []) (i : Int)) (fun x hx hxg => hS v x (h.sound v hvg hvo) ⟨hvg, hxg, by rw [← hx]; exact rd_mem (by omega) (by omega)⟩)
       refine ⟨q, ⟨hq2, fun y hy => hq4 y (hpm y hy), fun j hj x hx hxg => ?_⟩, fun r h => Ev.step (f := fun k => digraph_Reach.l2 k g q.1 q.2 (g.getD v []) ((i + 1 : Nat) : Int)) (fun k => ?_) h⟩
       · by_cases e : j = i
         · subst e; exact hq3 x hx hxg
         · exact hq4 x (hprog j (by omega) x hx hxg)
       · simp only [digraph_Reach.l2]
         rw [if_pos (by omega), if_pos (by omega), hq1, wrap_up hi (by omega)]
         rfl)
     (Nat.zero_le _) (s := (out, todo.take (todo.length - 1))) ⟨⟨h.len, fun a ha => h.tin a (List.mem_of_mem_take ha), h.sound, fun y hy hyo => by
         rcases h.closed y hy hyo with h1 | h1 | h1
         · rw [hdrop] at h1
           rcases List.mem_append.1 h1 with h1 | h1
           · exact .inl h1
           · simp at h1
             exact .inr (.inl (by omega))
         · exact h1.elim
         · exact .inr (.inr h1), by
           show 2 * out.countP tr + (todo.take (todo.length - 1)).length ≤ M - 1
           rw [List.length_take]; omega⟩, fun y hy => hy, fun j hj => absurd hj (Nat.not_lt_zero _)⟩
   obtain ⟨o2, t2⟩ := p
   have hp' : RC g S (fun _ => False) (M - 1) o2 t2 := ⟨hp.len, hp.tin, hp.sound, fun y hy hyo => by
     rcases hp.closed y hy hyo with h1 | h1 | h1
     · exact .inl h1
     · subst h1
       refine .inr (.inr fun z hz => ?_)
       obtain ⟨j, hj, e⟩ := mem_rd hz.2.2
       exact hprog j hj z e hz.2.1
     · exact .inr (.inr h1), hp.size⟩
   obtain ⟨o, ho1, ho2, ho3⟩ := ih (M - 1) (by omega) o2 t2 hp' (by omega)
   refine ⟨o, Ev.step (f := fun k => digraph_Reach.l2 k g out (todo.take (todo.length - 1)) (g.getD v []) 0) (fun k => ?_) (hk o (Ev.step (fun k => ?_) ho1)), ⟨ho2.len, ho2.tin, ho2.sound, ho2.closed, by have := ho2.size; omega⟩, fun y hy => ho3 y (hpm y hy)⟩
   · simp only [digraph_Reach.l1]
     rw [if_pos c, hv, if_pos (by omega), if_pos (by omega), rdL]
   · simp only [digraph_Reach.l2]
     rw [if_neg (by omega)]
 · have e : todo = [] := List.eq_nil_of_length_eq_zero (by omega)
   subst e
   exact ⟨out, Ev.one (fun k => by simp only [digraph_Reach.l1]; rw [if_neg c]), h, fun y hy => hy⟩
theorem reach_ev (hf : Few g) (xs : List Int) (hx : xs.length ≤ 1000) : ∃ out, Ev (fun k => digraph_Reach.f k g xs) out ∧ IsReach g xs out := by
 have g12 := hf.1
 have hS : ∀ u v, From g xs xs.length u → Ed g u v → From g xs xs.length v := fun u v ⟨j, s, h1, h2, h3⟩ he => ⟨j, s, h1, h2, h3.trans (R.edge he)⟩
 obtain ⟨p, ⟨hp, hprog⟩, hk⟩ := Ev_for (l := fun k (p : List Bool × List Int) i => digraph_Reach.l0 k g xs p.1 p.2 i) (n := xs.length)
   (inv := fun i p => RC g (From g xs xs.length) (fun _ => False) 1000 p.1 p.2 ∧ ∀ j, j < i → ∀ x : Nat, rd xs (j : Int) = (x : Int) → x < g.length → p.1.getD x false = true)
   (fun i p hi ⟨hp, hprog⟩ => by
     obtain ⟨q, hq1, hq2, hq3, hq4⟩ := visit_go hp (by omega) (rd xs (i : Int)) (fun x hx hxg => ⟨i, x, hi, hx, R.refl hxg⟩)
     refine ⟨q, ⟨hq2, fun j hj x hx hxg => ?_⟩, fun r h => Ev.step (f := fun k => digraph_Reach.l0 k g xs q.1 q.2 ((i + 1 : Nat) : Int)) (fun k => ?_) h⟩
     · by_cases e : j = i
       · subst e; exact hq3 x hx hxg
       · exact hq4 x (hprog j (by omega) x hx hxg)
     · simp only [digraph_Reach.l0]
       rw [if_pos (by omega), if_pos (by omega), hq1, wrap_up hi (by omega)]
       rfl)
   (Nat.zero_le _) (s := (List.replicate g.length false, [])) ⟨⟨by simp, fun a ha => (by cases ha), fun y hy h => by
       simp [List.getD_eq_getElem?_getD, hy] at h, fun y hy h => by
       simp [List.getD_eq_getElem?_getD, hy] at h, by
       have : (List.replicate g.length false).countP tr ≤ (List.replicate g.length false).length := List.countP_le_length
       simp at this ⊢
       omega⟩, fun j hj => absurd hj (Nat.not_lt_zero _)⟩
 obtain ⟨o1, t1⟩ := p
 obtain ⟨o, ho1, ho2, ho3⟩ := reach_loop hf hS 1000 o1 t1 hp (by omega)
 refine ⟨o, ?_, ho2.len, fun v hv => ⟨ho2.sound v hv, fun ⟨j, s, h1, h2, h3⟩ => ?_⟩⟩
 · refine Ev.congr (f := fun k => digraph_Reach.l0 k g xs (List.replicate g.length false) [] 0) (fun k => ?_) (hk o (Ev.step (fun k => ?_) ho1))
   · unfold digraph_Reach.f
     rw [if_pos (by omega)]
   · simp only [digraph_Reach.l0]
     rw [if_neg (by omega)]
 · have hs := ho3 s (hprog j h1 s h2 h3.lt.1)
   exact R.closed (p := fun y => o.getD y false = true) (fun a b ha hab => by
     rcases ho2.closed a hab.1 ha with h | h | h
     · cases h
     · exact h.elim
     · exact h b hab) h3 hs

end
end Go.Proofs.Ytnoebjmhimehcaa.Pl
/- Reversal: the lists of predecessors, ascending, without repetitions. -/
namespace Go.Proofs.Ytnoebjmhimehcaa.Pl
open Go.RowKit Go.Proofs.Ytnoebjmhimehcaa.P Go.Proofs.YtnoebjmhimehcaaW.PrintWords Go.Proofs.YtnoebjmhimehcaaW.PrintMore

/-- The predecessors of v below u. -/
def preds (g : List (List Int)) (v u : Nat) : List Int := ((List.range u).filter (fun x => decide ((v : Int) ∈ g.getD x []))).map (fun x : Nat => (x : Int))
theorem preds_succ (g : List (List Int)) (v u : Nat) : preds g v (u + 1) = preds g v u ++ (if (v : Int) ∈ g.getD u [] then [(u : Int)] else []) := by
 unfold preds
 rw [List.range_succ, List.filter_append, List.map_append]
 congr 1
 by_cases h : (v : Int) ∈ g.getD u []
 · rw [if_pos h, List.filter_cons_of_pos (by simpa using h)]; rfl
 · rw [if_neg h, List.filter_cons_of_neg (by simpa using h)]; rfl
theorem preds_mem {g : List (List Int)} {v u : Nat} {x : Int} : x ∈ preds g v u ↔ ∃ y : Nat, y < u ∧ x = (y : Int) ∧ (v : Int) ∈ g.getD y [] := by
 unfold preds
 simp only [List.mem_map, List.mem_filter, List.mem_range, decide_eq_true_eq]
 constructor
 · rintro ⟨y, ⟨h1, h2⟩, rfl⟩; exact ⟨y, h1, rfl, h2⟩
 · rintro ⟨y, h1, rfl, h2⟩; exact ⟨y, ⟨h1, h2⟩, rfl⟩
theorem preds_len (g : List (List Int)) (v u : Nat) : (preds g v u).length ≤ u := by
 unfold preds
 rw [List.length_map]
 exact Nat.le_trans (List.length_filter_le _ _) (by simp)
/-- The lists of predecessors. -/
def rev (g : List (List Int)) : List (List Int) := (List.range g.length).map (fun v => preds g v g.length)
theorem rev_len (g : List (List Int)) : (rev g).length = g.length := by simp [rev]
theorem rev_row (g : List (List Int)) (v : Nat) (hv : v < g.length) : (rev g).getD v [] = preds g v g.length := by
 unfold rev
 rw [List.getD_eq_getElem?_getD, List.getElem?_map, List.getElem?_range hv]; rfl
theorem rev_few {g : List (List Int)} (h : Few g) : Few (rev g) := by
 have g12 := h.1
 refine ⟨by rw [rev_len]; exact g12, fun u hu => ?_⟩
 rw [rev_len] at hu
 rw [rev_row g u hu]
 have := preds_len g u g.length
 omega

/-- Rows while vertex u's list is gone through, up to place i. -/
def RevAt (g : List (List Int)) (u i : Nat) (x : List (List Int)) : Prop := x.length = g.length ∧ ∀ v, v < g.length → x.getD v [] = preds g v u ++ (if (v : Int) ∈ (g.getD u []).take i then [(u : Int)] else [])
theorem last_is (l : List Int) (u : Int) : rd (l ++ [u]) (((l ++ [u]).length : Int) - 1) = u := by
 rw [rd_app _ _ _ (by simp), if_pos (by simp)]
theorem last_not {l : List Int} {u : Int} (h0 : l.length ≠ 0) (h : ∀ x ∈ l, x ≠ u) : rd l ((l.length : Int) - 1) ≠ u := h _ (rd_mem (by omega) (by omega))
theorem take_succ_mem {l : List Int} {i : Nat} (hi : i < l.length) {x : Int} : x ∈ l.take (i + 1) ↔ x ∈ l.take i ∨ x = rd l (i : Int) := by
 rw [List.take_succ_eq_append_getElem hi, List.mem_append, rd_nat, List.getD_eq_getElem?_getD, List.getElem?_eq_getElem hi]
 simp
theorem rev_step (g : List (List Int)) (hg : Few g) (u : Nat) (hu : u < g.length) (i : Nat) (hi : i < (g.getD u []).length) (x : List (List Int)) (h : RevAt g u i x) :
   ∃ x', RevAt g u (i + 1) x' ∧ ∀ r, Ev (fun k => digraph_Reverse.l1 k g x' (u : Int) g (g.length : Int) (u : Int) (g.getD u []) ((g.getD u []).length : Int) ((i + 1 : Nat) : Int)) r → Ev (fun k => digraph_Reverse.l1 k g x (u : Int) g (g.length : Int) (u : Int) (g.getD u []) ((g.getD u []).length : Int) (i : Int)) r := by
 obtain ⟨hl, hx⟩ := h
 have h20 := hg.2 u hu
 have g12 := hg.1
 obtain ⟨w, hw⟩ : ∃ w, w = rd (g.getD u []) (i : Int) := ⟨_, rfl⟩
 by_cases c1 : 0 ≤ w ∧ w < (g.length : Int)
 · obtain ⟨w0, w1⟩ := c1
   have hin : digraph_inside.f g w = some true := by unfold digraph_inside.f; rw [if_pos w0, decide_eq_true w1]
   obtain ⟨v, rfl⟩ : ∃ v : Nat, w = (v : Int) := ⟨w.toNat, by omega⟩
   have hv : v < g.length := by omega
   by_cases c2 : (v : Int) ∈ (g.getD u []).take i
   · have hrow := hx v hv
     rw [if_pos c2] at hrow
     refine ⟨x, ⟨hl, fun y hy => ?_⟩, fun r h => Ev.step (fun k => ?_) h⟩
     · rw [hx y hy]
       congr 1
       have e : ((y : Int) ∈ (g.getD u []).take (i + 1)) ↔ ((y : Int) ∈ (g.getD u []).take i) := by
         rw [take_succ_mem hi, ← hw]
         exact ⟨fun h => h.elim id (fun h => by rw [h]; exact c2), .inl⟩
       simp only [e]
     · simp only [digraph_Reverse.l1]
       rw [if_pos (by omega), if_pos (by omega), if_pos (by omega), ← hw, hin]
       simp only [Option.bind_some]
       rw [if_pos trivial, if_pos w0, if_pos (by omega), rdL, hrow, if_neg (by simp; omega), wrap_ok (by rw [List.length_append]; omega) (by have := preds_len g v u; simp; omega), if_pos (by simp), if_pos (by omega), if_pos (last_is _ _), wrap_up hi (by omega)]
   · have hrow := hx v hv
     rw [if_neg c2, List.append_nil] at hrow
     refine ⟨x.set v (preds g v u ++ [(u : Int)]), ⟨by rw [List.length_set]; exact hl, fun y hy => ?_⟩, fun r h => Ev.step (fun k => ?_) h⟩
     · rw [getD_set _ _ _ _ _ (by omega)]
       by_cases e : y = v
       · subst e
         rw [if_pos rfl, if_pos ((take_succ_mem hi).2 (.inr hw))]
       · rw [if_neg e, hx y hy]
         congr 1
         have e : ((y : Int) ∈ (g.getD u []).take (i + 1)) ↔ ((y : Int) ∈ (g.getD u []).take i) := by
           rw [take_succ_mem hi, ← hw]
           exact ⟨fun h => h.elim id (fun h => by omega), .inl⟩
         simp only [e]
     · simp only [digraph_Reverse.l1]
       have hp := preds_len g v u
       rw [if_pos (by omega), if_pos (by omega), if_pos (by omega), ← hw, hin]
       simp only [Option.bind_some]
       rw [if_pos trivial, if_pos w0, if_pos (by omega), rdL, hrow]
       by_cases c3 : ((preds g v u).length : Int) = 0
       · rw [if_pos c3, if_pos (by omega), wrap_up hi (by omega), Int.toNat_natCast]
       · rw [if_neg c3, wrap_ok (by omega) (by omega), if_pos (by omega), if_pos (by omega), if_neg (last_not (by omega) (fun z hz => by
           obtain ⟨y, hy, rfl, _⟩ := preds_mem.1 hz
           omega)), if_pos (by omega), wrap_up hi (by omega), Int.toNat_natCast]
 · have hin : digraph_inside.f g w = some false := by
     unfold digraph_inside.f
     by_cases h0 : w ≥ 0
     · rw [if_pos h0, decide_eq_false (fun h1 => c1 ⟨h0, h1⟩)]
     · rw [if_neg h0]
   refine ⟨x, ⟨hl, fun y hy => ?_⟩, fun r h => Ev.step (fun k => ?_) h⟩
   · rw [hx y hy]
     congr 1
     have e : ((y : Int) ∈ (g.getD u []).take (i + 1)) ↔ ((y : Int) ∈ (g.getD u []).take i) := by
       rw [take_succ_mem hi, ← hw]
       exact ⟨fun h => h.elim id (fun h => absurd (by omega) c1), .inl⟩
     simp only [e]
   · simp only [digraph_Reverse.l1]
     rw [if_pos (by omega), if_pos (by omega), if_pos (by omega), ← hw, hin]
     simp only [Option.bind_some]
     rw [if_neg (by decide), wrap_up hi (by omega)]
theorem reverse_ev (g : List (List Int)) (hg : Few g) : Ev (fun k => digraph_Reverse.f k g) (rev g) := by
 have g12 := hg.1
 obtain ⟨x, ⟨hl, hx⟩, hk⟩ := Ev_for (l := fun k (x : List (List Int)) i => digraph_Reverse.l0 k g x g (g.length : Int) i) (n := g.length) (inv := fun u x => x.length = g.length ∧ ∀ v, v < g.length → x.getD v [] = preds g v u)
   (fun u x hu ⟨hl, hx⟩ => by
     obtain ⟨x', ⟨hl', hx'⟩, hk'⟩ := Ev_for (l := fun k (x : List (List Int)) i => digraph_Reverse.l1 k g x (u : Int) g (g.length : Int) (u : Int) (g.getD u []) ((g.getD u []).length : Int) i) (n := (g.getD u []).length) (inv := fun i x => RevAt g u i x) (fun i x hi h => rev_step g hg u hu i hi x h) (Nat.zero_le _) (s := x) ⟨hl, fun v hv => by rw [hx v hv]; simp⟩
     refine ⟨x', ⟨hl', fun v hv => ?_⟩, fun r h => Ev.step (f := fun k => digraph_Reverse.l1 k g x (u : Int) g (g.length : Int) (u : Int) (g.getD u []) ((g.getD u []).length : Int) 0) (fun k => ?_) (hk' r (Ev.step (fun k => ?_) h))⟩
     · rw [hx' v hv, preds_succ, List.take_length]
     · simp only [digraph_Reverse.l0]
       rw [if_pos (by omega), if_pos (by omega), if_pos (by omega), rdL]
     · simp only [digraph_Reverse.l1]
       rw [if_neg (by omega), wrap_up hu (by omega)])
   (Nat.zero_le _) (s := List.replicate g.length []) ⟨by simp, fun v hv => by rw [List.getD_eq_getElem?_getD, List.getElem?_replicate, if_pos hv]; rfl⟩
 have e : x = rev g := by
   refine List.ext_getElem (by rw [hl, rev_len]) (fun i h1 h2 => ?_)
   have h3 := hx i (by omega)
   rw [← rev_row g i (by omega), List.getD_eq_getElem?_getD, List.getD_eq_getElem?_getD, List.getElem?_eq_getElem h1, List.getElem?_eq_getElem h2] at h3
   exact h3
 rw [← e]
 refine Ev.congr (f := fun k => digraph_Reverse.l0 k g (List.replicate g.length []) g (g.length : Int) 0) (fun k => ?_) (hk x (Ev.one (fun k => by simp only [digraph_Reverse.l0]; rw [if_neg (by omega)])))
 unfold digraph_Reverse.f
 rw [if_pos (by omega), if_pos (by omega), Int.toNat_natCast]

end Go.Proofs.Ytnoebjmhimehcaa.Pl
/- The reference's table of edges. -/
namespace Go.Proofs.Ytnoebjmhimehcaa.Pl
open Go.RowKit Go.Proofs.Ytnoebjmhimehcaa.P Go.Proofs.YtnoebjmhimehcaaW.PrintWords Go.Proofs.YtnoebjmhimehcaaW.PrintMore
/-! ### the table of edges -/
/-- A table of n rows of n, that holds where p does. -/
def IsTab (t : List (List Bool)) (n : Nat) (p : Nat → Nat → Prop) : Prop := t.length = n ∧ ∀ u, u < n → (t.getD u []).length = n ∧ ∀ v, v < n → ((t.getD u []).getD v false = true ↔ p u v)
theorem table_row (g : List (List Int)) (hg : Few g) (x3 : List (List Bool)) (u : Nat) (hu : u < g.length) (hx : x3.length = u) :
   ∃ row : List Bool, (row.length = g.length ∧ ∀ v, v < g.length → (row.getD v false = true ↔ Ed g u v)) ∧ ∀ r, Ev (fun k => r07_Table.l0 k g (x3 ++ [row]) ((u + 1 : Nat) : Int)) r → Ev (fun k => r07_Table.l0 k g x3 (u : Int)) r := by
 have h20 := hg.2 u hu
 obtain ⟨row, ⟨hl, hrow⟩, hk⟩ := Ev_for (l := fun k (row : List Bool) i => r07_Table.l1 k g x3 (u : Int) row i) (n := (g.getD u []).length)
   (inv := fun i row => row.length = g.length ∧ ∀ v, v < g.length → (row.getD v false = true ↔ ∃ j, j < i ∧ rd (g.getD u []) (j : Int) = (v : Int)))
   (fun i row hi ⟨hl, hrow⟩ => by
     by_cases h : 0 ≤ rd (g.getD u []) (i : Int) ∧ rd (g.getD u []) (i : Int) < (g.length : Int)
     · obtain ⟨h0, h1⟩ := h
       refine ⟨row.set (rd (g.getD u []) (i : Int)).toNat true, ⟨by rw [List.length_set]; exact hl, fun v hv => ?_⟩, fun r h => Ev.step (fun k => ?_) h⟩
       · rw [getD_set _ _ _ _ _ (by omega)]
         by_cases e : v = (rd (g.getD u []) (i : Int)).toNat
         · rw [if_pos e]
           exact ⟨fun _ => ⟨i, by omega, by omega⟩, fun _ => rfl⟩
         · rw [if_neg e, hrow v hv]
           exact ⟨fun ⟨j, hj, he⟩ => ⟨j, by omega, he⟩, fun ⟨j, hj, he⟩ => ⟨j, by
             by_cases hji : j = i
             · subst hji; omega
             · omega, he⟩⟩
       · simp only [r07_Table.l1]
         rw [if_pos (by omega), if_pos (by omega), rdL, if_pos (by omega), if_pos (by omega), if_pos h0, if_pos h1, if_pos h0, if_pos (by omega), wrap_up hi (by omega)]
     · refine ⟨row, ⟨hl, fun v hv => ?_⟩, fun r h2 => Ev.step (fun k => ?_) h2⟩
       · rw [hrow v hv]
         exact ⟨fun ⟨j, hj, he⟩ => ⟨j, by omega, he⟩, fun ⟨j, hj, he⟩ => ⟨j, by
           by_cases hji : j = i
           · subst hji; omega
           · omega, he⟩⟩
       · simp only [r07_Table.l1]
         rw [if_pos (by omega), if_pos (by omega), rdL, if_pos (by omega), if_pos (by omega)]
         by_cases h0 : 0 ≤ rd (g.getD u []) (i : Int)
         · rw [if_pos h0, if_neg (fun h1 => h ⟨h0, h1⟩), wrap_up hi (by omega)]
         · rw [if_neg h0, wrap_up hi (by omega)])
   (Nat.zero_le _) (s := List.replicate g.length false) ⟨by simp, fun v hv => ⟨fun h => by rw [List.getD_eq_getElem?_getD, List.getElem?_replicate, if_pos hv] at h; simp at h, fun ⟨j, hj, _⟩ => absurd hj (Nat.not_lt_zero _)⟩⟩
 have g12 := hg.1
 refine ⟨row, ⟨hl, fun v hv => ?_⟩, fun r h => ?_⟩
 · rw [hrow v hv]
   constructor
   · rintro ⟨j, hj, he⟩
     exact ⟨hu, hv, by rw [← he]; exact rd_mem (by omega) (by omega)⟩
   · rintro ⟨_, _, hm⟩
     exact mem_rd hm
 · refine Ev.step (f := fun k => r07_Table.l1 k g x3 (u : Int) (List.replicate g.length false) 0) (fun k => ?_) (hk r (Ev.step (fun k => ?_) h))
   · simp only [r07_Table.l0]
     rw [if_pos (by omega), if_pos (by omega), Int.toNat_natCast, if_pos (by omega)]
   · simp only [r07_Table.l1]
     rw [if_pos (by omega), if_pos (by omega), rdL, if_neg (by omega), if_pos (by omega), wrap_up hu (by omega)]
theorem table_ev (g : List (List Int)) (hg : Few g) : ∃ t, Ev (fun k => r07_Table.f k g) t ∧ IsTab t g.length (Ed g) := by
 obtain ⟨t, ⟨hl, ht⟩, hk⟩ := Ev_for (l := fun k (t : List (List Bool)) i => r07_Table.l0 k g t i) (n := g.length)
   (inv := fun i t => t.length = i ∧ ∀ u, u < i → (t.getD u []).length = g.length ∧ ∀ v, v < g.length → ((t.getD u []).getD v false = true ↔ Ed g u v))
   (fun i t hi ⟨hl, ht⟩ => by
     obtain ⟨row, h1, h2⟩ := table_row g hg t i hi hl
     refine ⟨t ++ [row], ⟨by simp [hl], fun u hu => ?_⟩, h2⟩
     rw [getD_app]
     by_cases e : u = t.length
     · rw [if_pos e]
       rw [hl] at e
       subst e
       exact h1
     · rw [if_neg e]
       exact ht u (by omega))
   (Nat.zero_le _) (s := []) ⟨rfl, fun u hu => absurd hu (Nat.not_lt_zero _)⟩
 exact ⟨t, hk t (Ev.one (fun k => by simp only [r07_Table.l0]; rw [if_neg (by omega)])), hl, ht⟩
end Go.Proofs.Ytnoebjmhimehcaa.Pl
/- Reversal, the reference's. -/
namespace Go.Proofs.Ytnoebjmhimehcaa.Pl
open Go.RowKit Go.Proofs.Ytnoebjmhimehcaa.P Go.Proofs.YtnoebjmhimehcaaW.PrintWords Go.Proofs.YtnoebjmhimehcaaW.PrintMore
/-! ### the reference's -/
theorem refrev_row (g : List (List Int)) (hg : Few g) {t : List (List Bool)} (ht : IsTab t g.length (Ed g)) (v : Nat) (hv : v < g.length) (x : List (List Int)) (hx : x.length = v) :
   ∀ r, Ev (fun k => r07_Reverse.l0 k g t (x ++ [preds g v g.length]) ((v + 1 : Nat) : Int)) r → Ev (fun k => r07_Reverse.l0 k g t x (v : Int)) r := by
 have g12 := hg.1
 obtain ⟨l, hl, hk⟩ := Ev_for (l := fun k (l : List Int) u => r07_Reverse.l1 k g t x (v : Int) l u) (n := g.length) (inv := fun u l => l = preds g v u)
   (fun u l hu hl => by
     subst hl
     obtain ⟨h1, h2⟩ := ht.2 u hu
     have hp := preds_len g v u
     by_cases c : (t.getD u []).getD v false = true
     · refine ⟨_, rfl, fun r h => Ev.step (fun k => ?_) h⟩
       simp only [r07_Reverse.l1]
       rw [if_pos (by omega), if_pos (by omega), if_pos (by have := ht.1; omega), if_pos (by omega), rdB, if_pos (by omega), rdOf_nat, if_pos c, if_pos (by omega), wrap_up hu (by omega), preds_succ, if_pos ((h2 v hv).1 c).2.2]
     · refine ⟨_, rfl, fun r h => Ev.step (fun k => ?_) h⟩
       simp only [r07_Reverse.l1]
       rw [if_pos (by omega), if_pos (by omega), if_pos (by have := ht.1; omega), if_pos (by omega), rdB, if_pos (by omega), rdOf_nat, if_neg c, wrap_up hu (by omega), preds_succ, if_neg (fun hm => c ((h2 v hv).2 ⟨hu, hv, hm⟩)), List.append_nil])
   (Nat.zero_le _) (s := []) rfl
 subst hl
 exact fun r h => Ev.step (f := fun k => r07_Reverse.l1 k g t x (v : Int) [] 0) (fun k => by simp only [r07_Reverse.l0]; rw [if_pos (by omega)]) (hk r (Ev.step (fun k => by simp only [r07_Reverse.l1]; rw [if_neg (by omega), if_pos (by omega), wrap_up hv (by omega)]) h))
theorem refrev_ev (g : List (List Int)) (hg : Few g) : Ev (fun k => r07_Reverse.f k g) (rev g) := by
 have g12 := hg.1
 obtain ⟨t, htab, ht⟩ := table_ev g hg
 obtain ⟨x, hx, hk⟩ := Ev_for (l := fun k (x : List (List Int)) v => r07_Reverse.l0 k g t x v) (n := g.length) (inv := fun v x => x = (List.range v).map (fun v => preds g v g.length))
   (fun v x hv hx => by
     subst hx
     exact ⟨_, rfl, fun r h => refrev_row g hg ht v hv _ (by simp) r (by rw [List.range_succ, List.map_append] at h; exact h)⟩) (Nat.zero_le _) (s := []) rfl
 subst hx
 exact Ev.bind htab (hk _ (Ev.one (fun k => by simp only [r07_Reverse.l0]; rw [if_neg (by omega)]; rfl)))
end Go.Proofs.Ytnoebjmhimehcaa.Pl
/- The reference's table of walks. -/
namespace Go.Proofs.Ytnoebjmhimehcaa.Pl
open Go.RowKit Go.Proofs.Ytnoebjmhimehcaa.P Go.Proofs.YtnoebjmhimehcaaW.PrintWords Go.Proofs.YtnoebjmhimehcaaW.PrintMore
/-! ### a table, read and written -/
def T (t : List (List Bool)) (a b : Nat) : Bool := (t.getD a []).getD b false
theorem T_set (t : List (List Bool)) (u v : Nat) (x : Bool) (hu : u < t.length) (hv : v < (t.getD u []).length) (a b : Nat) : T (t.set u ((t.getD u []).set v x)) a b = if a = u ∧ b = v then x else T t a b := by
 unfold T
 rw [getD_set _ _ _ _ _ hu]
 by_cases e : a = u
 · rw [if_pos e, getD_set _ _ _ _ _ hv]
   subst e
   by_cases e2 : b = v
   · rw [if_pos e2, if_pos ⟨rfl, e2⟩]
   · rw [if_neg e2, if_neg (fun h => e2 h.2)]
 · rw [if_neg e, if_neg (fun h => e h.1)]
theorem T_row (t : List (List Bool)) (u v : Nat) (x : Bool) (n : Nat) (hu : u < t.length) (h : ∀ a, a < n → (t.getD a []).length = n) (a : Nat) (ha : a < n) : ((t.set u ((t.getD u []).set v x)).getD a []).length = n := by
 rw [getD_set _ _ _ _ _ hu]
 by_cases e : a = u
 · rw [if_pos e, List.length_set]; subst e; exact h a ha
 · rw [if_neg e]; exact h a ha

section
variable {g : List (List Int)}
theorem Via.at {K u : Nat} (h : Via g (K + 1) u K) : Via g K u K := (Via.succ.1 h).elim id (fun h => h.1)
theorem Via.from {K v : Nat} (h : Via g (K + 1) K v) : Via g K K v := (Via.succ.1 h).elim id (fun h => h.2)

/-- In round K: rows below u are done, of row u the columns below v. -/
structure PT (g : List (List Int)) (K u v : Nat) (t : List (List Bool)) : Prop where
 len : t.length = g.length
 row : ∀ a, a < g.length → (t.getD a []).length = g.length
 low : ∀ a b, a < g.length → b < g.length → Via g K a b → T t a b = true
 up : ∀ a b, a < g.length → b < g.length → T t a b = true → Via g (K + 1) a b
 done : ∀ a b, a < g.length → b < g.length → (a < u ∨ (a = u ∧ b < v)) → Via g (K + 1) a b → T t a b = true

theorem PT.put {K u v : Nat} {t : List (List Bool)} (h : PT g K u v t) (hK : K < g.length) (hu : u < g.length) (hv : v < g.length) {x : Bool} (hx : x = (T t u v || (T t u K && T t K v))) :
   PT g K u (v + 1) (t.set u ((t.getD u []).set v x)) := by
 obtain ⟨len, row, low, up, done⟩ := h
 have hl := row u hu
 have hT := T_set t u v x (by omega) (by omega)
 have x1 : x = true → Via g (K + 1) u v := fun h => by
   rw [hx] at h
   rcases Bool.or_eq_true _ _ ▸ h with h | h
   · exact up u v hu hv h
   · rw [Bool.and_eq_true] at h
     exact Via.succ.2 (.inr ⟨(up u K hu hK h.1).at, (up K v hK hv h.2).from⟩)
 have x2 : Via g (K + 1) u v → x = true := fun h => by
   rw [hx]
   rcases Via.succ.1 h with h | ⟨h1, h2⟩
   · rw [low u v hu hv h]; rfl
   · rw [low u K hu hK h1, low K v hK hv h2]; simp
 refine ⟨by rw [List.length_set]; exact len, T_row t u v x g.length (by omega) row, fun a b ha hb h => ?_, fun a b ha hb h => ?_, fun a b ha hb hd h => ?_⟩
 · rw [hT]
   split
   · rename_i e; obtain ⟨rfl, rfl⟩ := e; exact x2 h.up
   · exact low a b ha hb h
 · rw [hT] at h
   split at h
   · rename_i e; obtain ⟨rfl, rfl⟩ := e; exact x1 h
   · exact up a b ha hb h
 · rw [hT]
   split
   · rename_i e; obtain ⟨rfl, rfl⟩ := e; exact x2 h
   · rename_i e
     refine done a b ha hb ?_ h
     rcases hd with hd | ⟨h1, h2⟩
     · exact .inl hd
     · exact .inr ⟨h1, by
         have : b ≠ v := fun e2 => e ⟨h1, e2⟩
         omega⟩

theorem paths_cell (hf : Few g) {K u : Nat} (hK : K < g.length) (hu : u < g.length) (v : Nat) (hv : v < g.length) (t : List (List Bool)) (h : PT g K u v t) :
   ∃ t', PT g K u (v + 1) t' ∧ ∀ r, Ev (fun k => r07_Paths.l2 k g t' (K : Int) (u : Int) ((v + 1 : Nat) : Int)) r → Ev (fun k => r07_Paths.l2 k g t (K : Int) (u : Int) (v : Int)) r := by
 have g12 := hf.1
 have hl := h.len
 have hr := h.row u hu
 have hrK := h.row K hK
 by_cases c1 : T t u v = true
 · refine ⟨_, h.put hK hu hv (x := true) (by rw [c1]; rfl), fun r h => Ev.step (fun k => ?_) h⟩
   simp only [r07_Paths.l2]
   rw [if_pos (by omega), if_pos (by omega), if_pos (by omega), if_pos (by omega), rdB, if_pos (by omega), rdOf_nat, if_pos (show (t.getD u []).getD v false = true from c1), wrap_up hv (by omega), Int.toNat_natCast, Int.toNat_natCast]
 · have c1' : T t u v = false := by simpa using c1
   by_cases c2 : T t u K = true
   · refine ⟨_, h.put hK hu hv (x := T t K v) (by rw [c1', c2]; rfl), fun r h => Ev.step (fun k => ?_) h⟩
     simp only [r07_Paths.l2]
     rw [if_pos (by omega), if_pos (by omega), if_pos (by omega), if_pos (by omega), rdB, if_pos (by omega), rdOf_nat, if_neg (show ¬ (t.getD u []).getD v false = true from c1), if_pos (by omega), if_pos (by omega), rdOf_nat, if_pos (show (t.getD u []).getD K false = true from c2), if_pos (by omega), rdB, if_pos (by omega), rdOf_nat, wrap_up hv (by omega), Int.toNat_natCast, Int.toNat_natCast]
     rfl
   · have c2' : T t u K = false := by simpa using c2
     refine ⟨_, h.put hK hu hv (x := false) (by rw [c1', c2']; rfl), fun r h => Ev.step (fun k => ?_) h⟩
     simp only [r07_Paths.l2]
     rw [if_pos (by omega), if_pos (by omega), if_pos (by omega), if_pos (by omega), rdB, if_pos (by omega), rdOf_nat, if_neg (show ¬ (t.getD u []).getD v false = true from c1), if_pos (by omega), if_pos (by omega), rdOf_nat, if_neg (show ¬ (t.getD u []).getD K false = true from c2), wrap_up hv (by omega), Int.toNat_natCast, Int.toNat_natCast]

theorem tab_ev (hf : Few g) : ∃ t, Ev (fun k => r07_Paths.f k g) t ∧ IsTab t g.length (Rp g) := by
 have g12 := hf.1
 obtain ⟨t0, htab, ht⟩ := table_ev g hf
 obtain ⟨t, h, hk⟩ := Ev_for (l := fun k (t : List (List Bool)) K => r07_Paths.l0 k g t K) (n := g.length) (inv := fun K t => t.length = g.length ∧ (∀ a, a < g.length → (t.getD a []).length = g.length) ∧ ∀ a b, a < g.length → b < g.length → (T t a b = true ↔ Via g K a b))
   (fun K t hK ⟨len, row, hT⟩ => by
     obtain ⟨t', h', hk'⟩ := Ev_for (l := fun k (t : List (List Bool)) u => r07_Paths.l1 k g t (K : Int) u) (n := g.length) (inv := fun u t => PT g K u 0 t)
       (fun u t hu h => by
         obtain ⟨t', h', hk'⟩ := Ev_for (l := fun k (t : List (List Bool)) v => r07_Paths.l2 k g t (K : Int) (u : Int) v) (n := g.length) (inv := fun v t => PT g K u v t) (fun v t hv h => paths_cell hf hK hu v hv t h) (Nat.zero_le _) h
         refine ⟨t', ⟨h'.len, h'.row, h'.low, h'.up, fun a b ha hb hd hv => h'.done a b ha hb (hd.elim (fun h => by
           by_cases e : a = u
           · exact .inr ⟨e, hb⟩
           · exact .inl (by omega)) (fun h => absurd h.2 (Nat.not_lt_zero _))) hv⟩, fun r h => Ev.step (f := fun k => r07_Paths.l2 k g t (K : Int) (u : Int) 0) (fun k => ?_) (hk' r (Ev.step (fun k => ?_) h))⟩
         · simp only [r07_Paths.l1]; rw [if_pos (by omega)]
         · simp only [r07_Paths.l2]; rw [if_neg (by omega), wrap_up hu (by omega)])
       (Nat.zero_le _) (s := t) ⟨len, row, fun a b ha hb => (hT a b ha hb).2, fun a b ha hb h => ((hT a b ha hb).1 h).up, fun a b ha hb hd => hd.elim (fun h => absurd h (Nat.not_lt_zero _)) (fun h => absurd h.2 (Nat.not_lt_zero _))⟩
     refine ⟨t', ⟨h'.len, h'.row, fun a b ha hb => ⟨h'.up a b ha hb, fun hv => h'.done a b ha hb (.inl ha) hv⟩⟩, fun r h => Ev.step (f := fun k => r07_Paths.l1 k g t (K : Int) 0) (fun k => ?_) (hk' r (Ev.step (fun k => ?_) h))⟩
     · simp only [r07_Paths.l0]; rw [if_pos (by omega)]
     · simp only [r07_Paths.l1]; rw [if_neg (by omega), wrap_up hK (by omega)])
   (Nat.zero_le _) (s := t0) ⟨ht.1, fun a ha => (ht.2 a ha).1, fun a b ha hb => ((ht.2 a ha).2 b hb).trans Via.zero.symm⟩
 exact ⟨t, Ev.bind htab (hk t (Ev.one (fun k => by simp only [r07_Paths.l0]; rw [if_neg (by omega)]))), h.1, fun u hu => ⟨h.2.1 u hu, fun v hv => (h.2.2 u v hu hv).trans Via.all⟩⟩

end
end Go.Proofs.Ytnoebjmhimehcaa.Pl
/- Reachability: the reference's lists. -/
namespace Go.Proofs.Ytnoebjmhimehcaa.Pl
open Go.RowKit Go.Proofs.Ytnoebjmhimehcaa.P Go.Proofs.YtnoebjmhimehcaaW.PrintWords Go.Proofs.YtnoebjmhimehcaaW.PrintMore
section
variable {g : List (List Int)}
theorem refreach_ev (hf : Few g) (xs : List Int) (hx : xs.length ≤ 1000) : ∃ out, Ev (fun k => r07_Reach.f k g xs) out ∧ IsReach g xs out := by
 have g12 := hf.1
 obtain ⟨t, htab, ht⟩ := tab_ev hf
 obtain ⟨out, ⟨hl, ho⟩, hk⟩ := Ev_for (l := fun k (out : List Bool) i => r07_Reach.l0 k g xs t out i) (n := xs.length) (inv := fun i out => out.length = g.length ∧ ∀ v, v < g.length → (out.getD v false = true ↔ From g xs i v))
   (fun i out hi ⟨hl, ho⟩ => by
     by_cases c : 0 ≤ rd xs (i : Int) ∧ rd xs (i : Int) < (g.length : Int)
     · obtain ⟨c0, c1⟩ := c
       obtain ⟨s, hs⟩ : ∃ s : Nat, rd xs (i : Int) = (s : Int) := ⟨(rd xs (i : Int)).toNat, by omega⟩
       have hsg : s < g.length := by omega
       have htl := ht.1
       obtain ⟨hr1, hr2⟩ := ht.2 s hsg
       obtain ⟨out', ⟨hl', ho'⟩, hk'⟩ := Ev_for (l := fun k (out : List Bool) v => r07_Reach.l1 k g xs t out (i : Int) v) (n := g.length) (inv := fun v o => o.length = g.length ∧ ∀ y, y < g.length → (o.getD y false = true ↔ (out.getD y false = true ∨ y = s ∨ (y < v ∧ Rp g s y))))
         (fun v o hv ⟨hl', ho'⟩ => by
           by_cases d1 : o.getD v false = true
           · refine ⟨o.set v true, ⟨by rw [List.length_set]; exact hl', fun y hy => ?_⟩, fun r h => Ev.step (fun k => ?_) h⟩
             · rw [getD_set _ _ _ _ _ (by omega)]
               by_cases e : y = v
               · subst e
                 rw [if_pos rfl]
                 refine ⟨fun _ => ?_, fun _ => rfl⟩
                 rcases (ho' y hy).1 d1 with h | h | ⟨h1, _⟩
                 · exact .inl h
                 · exact .inr (.inl h)
                 · exact absurd h1 (Nat.lt_irrefl _)
               · rw [if_neg e, ho' y hy]
                 exact ⟨fun h => h.imp id (fun h => h.imp id (fun h => ⟨by omega, h.2⟩)), fun h => h.imp id (fun h => h.imp id (fun h => ⟨by omega, h.2⟩))⟩
             · simp only [r07_Reach.l1]
               rw [if_pos (by omega), if_pos (by omega), if_pos (by omega), rdOf_nat, if_pos d1, wrap_up hv (by omega), Int.toNat_natCast]
           · refine ⟨o.set v ((t.getD s []).getD v false), ⟨by rw [List.length_set]; exact hl', fun y hy => ?_⟩, fun r h => Ev.step (fun k => ?_) h⟩
             · rw [getD_set _ _ _ _ _ (by omega)]
               by_cases e : y = v
               · subst e
                 rw [if_pos rfl, hr2 y hy]
                 refine ⟨fun h => .inr (.inr ⟨Nat.lt_succ_self _, h⟩), fun h => ?_⟩
                 rcases h with h | h | h
                 · exact absurd ((ho' y hy).2 (.inl h)) d1
                 · exact absurd ((ho' y hy).2 (.inr (.inl h))) d1
                 · exact h.2
               · rw [if_neg e, ho' y hy]
                 exact ⟨fun h => h.imp id (fun h => h.imp id (fun h => ⟨by omega, h.2⟩)), fun h => h.imp id (fun h => h.imp id (fun h => ⟨by omega, h.2⟩))⟩
             · simp only [r07_Reach.l1]
               rw [if_pos (by omega), if_pos (by omega), if_pos (by omega), rdOf_nat, if_neg d1, if_pos (by omega), if_pos (by omega), hs, if_pos (by omega), if_pos (by omega), rdB, if_pos (by omega), rdOf_nat, wrap_up hv (by omega), Int.toNat_natCast])
         (Nat.zero_le _) (s := out.set s true) ⟨by rw [List.length_set]; exact hl, fun y hy => by
           rw [getD_set _ _ _ _ _ (by omega)]
           by_cases e : y = s
           · rw [if_pos e]; exact ⟨fun _ => .inr (.inl e), fun _ => rfl⟩
           · rw [if_neg e]
             exact ⟨.inl, fun h => h.elim id (fun h => h.elim (fun h => absurd h e) (fun h => absurd h.1 (Nat.not_lt_zero _)))⟩⟩
       refine ⟨out', ⟨hl', fun v hv => ?_⟩, fun r h => Ev.step (f := fun k => r07_Reach.j1 k g xs t out (i : Int) false) (fun k => ?_) (Ev.step (f := fun k => r07_Reach.l1 k g xs t (out.set s true) (i : Int) 0) (fun k => ?_) (hk' r (Ev.step (fun k => ?_) h)))⟩
       · rw [ho' v hv, ho v hv]
         constructor
         · rintro (⟨j, s', hj, h1, h2⟩ | h | ⟨_, h⟩)
           · exact ⟨j, s', by omega, h1, h2⟩
           · subst h; exact ⟨i, v, Nat.lt_succ_self _, hs, R.refl hv⟩
           · exact ⟨i, s, Nat.lt_succ_self _, hs, h.toR⟩
         · rintro ⟨j, s', hj, h1, h2⟩
           by_cases e : j = i
           · subst e
             have : s' = s := by omega
             subst this
             rcases R_iff.1 h2 with ⟨h, _⟩ | h
             · exact .inr (.inl h.symm)
             · exact .inr (.inr ⟨hv, h⟩)
           · exact .inl ⟨j, s', by omega, h1, h2⟩
       · simp only [r07_Reach.l0]
         rw [if_pos (by omega), if_pos (by omega), if_neg (by omega), decide_eq_false (by omega)]
       · simp only [r07_Reach.j1]
         rw [if_neg (by decide), if_pos (by omega), if_pos (by omega), hs, if_pos (by omega), if_pos (by omega), Int.toNat_natCast]
       · simp only [r07_Reach.l1]
         rw [if_neg (by omega), wrap_up hi (by omega)]
     · refine ⟨out, ⟨hl, fun v hv => ?_⟩, fun r h => Ev.step (f := fun k => r07_Reach.j1 k g xs t out (i : Int) true) (fun k => ?_) (Ev.step (fun k => ?_) h)⟩
       · rw [ho v hv]
         constructor
         · rintro ⟨j, s', hj, h1, h2⟩; exact ⟨j, s', by omega, h1, h2⟩
         · rintro ⟨j, s', hj, h1, h2⟩
           refine ⟨j, s', ?_, h1, h2⟩
           rcases Nat.lt_or_ge j i with h | h
           · exact h
           · have e : j = i := by omega
             subst e
             have := h2.lt.1
             exact absurd ⟨by omega, by omega⟩ c
       · simp only [r07_Reach.l0]
         rw [if_pos (by omega), if_pos (by omega)]
         by_cases c0 : rd xs (i : Int) < 0
         · rw [if_pos c0]
         · rw [if_neg c0, decide_eq_true (by omega)]
       · simp only [r07_Reach.j1]
         rw [if_pos trivial, wrap_up hi (by omega)])
   (Nat.zero_le _) (s := List.replicate g.length false) ⟨by simp, fun v hv => by
     rw [List.getD_eq_getElem?_getD, List.getElem?_replicate, if_pos hv]
     exact ⟨fun h => by simp at h, fun ⟨j, _, hj, _⟩ => absurd hj (Nat.not_lt_zero _)⟩⟩
 refine ⟨out, Ev.bind htab ?_, hl, ho⟩
 refine Ev.congr (f := fun k => r07_Reach.l0 k g xs t (List.replicate g.length false) 0) (fun k => ?_) (hk out (Ev.one (fun k => by simp only [r07_Reach.l0]; rw [if_neg (by omega)])))
 rw [if_pos (by omega), if_pos (by omega), Int.toNat_natCast]
end
end Go.Proofs.Ytnoebjmhimehcaa.Pl
/- The nodes on a path from one place to another, by both texts. -/
namespace Go.Proofs.Ytnoebjmhimehcaa.Pl
set_option linter.unusedVariables false
open Go.RowKit Go.Proofs.Ytnoebjmhimehcaa.P Go.Proofs.YtnoebjmhimehcaaW.PrintWords Go.Proofs.YtnoebjmhimehcaaW.PrintMore

theorem from_at {g : List (List Int)} {s v : Nat} : From g [(s : Int)] ([(s : Int)] : List Int).length v ↔ R g s v := by
 constructor
 · rintro ⟨j, u, hj, h1, h2⟩
   simp at hj
   subst hj
   have : u = s := by
     have e : rd [(s : Int)] ((0 : Nat) : Int) = (s : Int) := rfl
     rw [e] at h1; omega
   rw [← this]; exact h2
 · intro h
   exact ⟨0, s, by simp, rfl, h⟩
/-- On a path from s to t. -/
def onP (g : List (List Int)) (s t v : Nat) : Prop := R g s v ∧ R (rev g) t v
open Classical in
noncomputable def onB (g : List (List Int)) (s t v : Nat) : Bool := decide (onP g s t v)
theorem onB_iff {g : List (List Int)} {s t v : Nat} : onB g s t v = true ↔ onP g s t v := by unfold onB; exact @decide_eq_true_iff _ (Classical.propDecidable _)
theorem onB_and {g : List (List Int)} {s t v : Nat} {a b : Bool} (ha : a = true ↔ R g s v) (hb : b = true ↔ R (rev g) t v) : (a && b) = onB g s t v := by
 rw [Bool.eq_iff_iff, Bool.and_eq_true, ha, hb, onB_iff]; exact Iff.rfl
theorem onpath_ev {nm : ByteArray} {ps : List Pla} {ts : List Tra} (V : ValidN nm ps ts) (hT : Thin ts) (s t : Nat) :
   ∃ on, Ev (fun k => workflow_onPath.f k nm ps ts (s : Int) (t : Int)) on ∧ on.length = ps.length + ts.length ∧ ∀ v, v < ps.length + ts.length → on.getD v false = onB (flowS true ps ts) s t v := by
 have hv := validS_iff.2 V
 obtain ⟨h1, h2⟩ := flow_few V
 have hg : Few (flowS true ps ts) := ⟨h1, fun u hu => Nat.le_trans (h2 u hu) (by decide)⟩
 have hl := flow_len (v := true) (ps := ps) (ts := ts) rfl
 have hf := flow_ev nm (ps := ps) hT
 rw [hv] at hf
 obtain ⟨a, a1, a2, a3⟩ := reach_ev hg [(s : Int)] (by simp)
 obtain ⟨b, b1, b2, b3⟩ := reach_ev (rev_few hg) [(t : Int)] (by simp)
 rw [rev_len] at b2
 obtain ⟨on, ⟨o1, o2⟩, hk⟩ := Ev_for (l := fun k (out : List Bool) v => workflow_onPath.l0 k out b (b.length : Int) v) (n := b.length)
   (inv := fun i out => out.length = a.length ∧ ∀ v, v < a.length → out.getD v false = if v < i then (a.getD v false && b.getD v false) else a.getD v false)
   (fun i out hi ⟨hl', ho⟩ => by
     have ei := ho i (by omega)
     rw [if_neg (Nat.lt_irrefl _)] at ei
     have put : ∀ x : Bool, x = (a.getD i false && b.getD i false) → (out.set i x).length = a.length ∧ ∀ v, v < a.length → (out.set i x).getD v false = if v < i + 1 then (a.getD v false && b.getD v false) else a.getD v false := fun x hx =>
       ⟨by rw [List.length_set]; exact hl', fun v hv => by
         rw [getD_set _ _ _ _ _ (by omega)]
         by_cases e : v = i
         · subst e; rw [if_pos rfl, if_pos (Nat.lt_succ_self _)]; exact hx
         · rw [if_neg e, ho v hv]
           by_cases l : v < i
           · rw [if_pos l, if_pos (by omega)]
           · rw [if_neg l, if_neg (by omega)]⟩
     by_cases c : a.getD i false = true
     · refine ⟨out.set i (b.getD i false), put _ (by rw [c, Bool.true_and]), fun r h => Ev.step (fun k => ?_) h⟩
       simp only [workflow_onPath.l0]
       rw [if_pos (by omega), if_pos (by omega), if_pos (by omega), if_pos (by omega), rdOf_nat, rdOf_nat, if_pos (by rw [ei]; exact c), Int.toNat_natCast, wrap_up hi (by omega)]
     · refine ⟨out.set i false, put _ (by rw [Bool.eq_false_iff.2 c, Bool.false_and]), fun r h => Ev.step (fun k => ?_) h⟩
       simp only [workflow_onPath.l0]
       rw [if_pos (by omega), if_pos (by omega), if_pos (by omega), if_pos (by omega), rdOf_nat, if_neg (by rw [ei]; exact c), Int.toNat_natCast, wrap_up hi (by omega)])
   (Nat.zero_le _) (s := a) ⟨rfl, fun v hv => by rw [if_neg (by omega)]⟩
 refine ⟨on, ?_, by omega, fun v hv => ?_⟩
 · unfold workflow_onPath.f
   refine Ev.bind hf (Ev.bind a1 (Ev.bind (reverse_ev _ hg) (Ev.bind b1 ?_)))
   exact hk on (Ev.one fun k => by simp only [workflow_onPath.l0]; rw [if_neg (by omega)])
 · rw [o2 v (by omega), if_pos (by omega)]
   exact onB_and ((a3 v (by omega)).trans from_at) ((b3 v (by rw [rev_len]; omega)).trans from_at)
/-- The nodes that are not on a path. -/
noncomputable def offN (g : List (List Int)) (s t i : Nat) : List Nat := (List.range i).filter (fun v => !onB g s t v)
theorem offN_succ (g : List (List Int)) (s t i : Nat) : offN g s t (i + 1) = if onB g s t i = true then offN g s t i else offN g s t i ++ [i] := by
 unfold offN
 rw [filter_range_succ]
 by_cases h : onB g s t i = true
 · rw [h]; rfl
 · rw [Bool.eq_false_iff.2 h]; rfl
theorem offN_len (g : List (List Int)) (s t i : Nat) : (offN g s t i).length ≤ i := Nat.le_trans (List.length_filter_le _ _) (by rw [List.length_range]; exact Nat.le_refl _)
theorem off_ev {nm : ByteArray} {ps : List Pla} {ts : List Tra} (V : ValidN nm ps ts) (hT : Thin ts) (s t : Nat) :
   Ev (fun k => r43_off.f k nm ps ts (s : Int) (t : Int)) ((offN (flowS true ps ts) s t (ps.length + ts.length)).map (fun v : Nat => (v : Int))) := by
 have hv := validS_iff.2 V
 obtain ⟨h1, h2⟩ := flow_few V
 have hg : Few (flowS true ps ts) := ⟨h1, fun u hu => Nat.le_trans (h2 u hu) (by decide)⟩
 have hl := flow_len (v := true) (ps := ps) (ts := ts) rfl
 have hf := refflow_ev nm (ps := ps) hT
 rw [hv] at hf
 obtain ⟨a, a1, a2, a3⟩ := refreach_ev hg [(s : Int)] (by simp)
 obtain ⟨b, b1, b2, b3⟩ := refreach_ev (rev_few hg) [(t : Int)] (by simp)
 rw [rev_len] at b2
 generalize hG : flowS true ps ts = G at *
 have hb3 : ∀ v, v < G.length → (b.getD v false = true ↔ R (rev G) t v) := fun v hv => (b3 v (by rw [rev_len]; exact hv)).trans from_at
 have ha3 : ∀ v, v < G.length → (a.getD v false = true ↔ R G s v) := fun v hv => (a3 v hv).trans from_at
 obtain ⟨out, ho, hk⟩ := Ev_for (l := fun k (out : List Int) v => r43_off.l0 k G a b out v) (n := G.length)
   (inv := fun i out => out = (offN G s t i).map (fun v : Nat => (v : Int)))
   (fun i out hi ho => by
     have hlen : out.length < 17592186044416 := by rw [ho, List.length_map]; have := offN_len G s t i; have := h1; omega
     have eb := onB_and (ha3 i hi) (hb3 i hi)
     refine ⟨_, rfl, fun r h => ?_⟩
     rw [offN_succ] at h
     by_cases c : a.getD i false = true
     · by_cases d : b.getD i false = true
       · rw [if_pos (by rw [← eb, c, d]; rfl), ← ho] at h
         refine Ev.step (fun k => ?_) h
         simp only [r43_off.l0]
         rw [if_pos (by omega), if_pos (by omega), if_pos (by omega), rdOf_nat, if_pos c, if_pos (by omega), rdOf_nat, if_pos d, wrap_up hi (by omega)]
       · rw [if_neg (by rw [← eb, Bool.eq_false_iff.2 d, Bool.and_false]; simp), List.map_append, ← ho] at h
         refine Ev.step (fun k => ?_) h
         simp only [r43_off.l0]
         rw [if_pos (by omega), if_pos (by omega), if_pos (by omega), rdOf_nat, if_pos c, if_pos (by omega), rdOf_nat, if_neg d, if_pos hlen, wrap_up hi (by omega)]
         rfl
     · rw [if_neg (by rw [← eb, Bool.eq_false_iff.2 c, Bool.false_and]; simp), List.map_append, ← ho] at h
       refine Ev.step (fun k => ?_) h
       simp only [r43_off.l0]
       rw [if_pos (by omega), if_pos (by omega), if_pos (by omega), rdOf_nat, if_neg c, if_pos hlen, wrap_up hi (by omega)]
       rfl)
   (Nat.zero_le _) (s := []) rfl
 unfold r43_off.f
 refine Ev.bind hf (Ev.bind a1 (Ev.bind (refrev_ev _ hg) (Ev.bind b1 ?_)))
 rw [← hl, ← ho]
 exact hk out (Ev.one fun k => by simp only [r43_off.l0]; rw [if_neg (by omega)])
end Go.Proofs.Ytnoebjmhimehcaa.Pl
/- Whether a net is plain: the program's text. -/
namespace Go.Proofs.Ytnoebjmhimehcaa.Pl
set_option linter.unusedVariables false
open Go.RowKit Go.Proofs.Ytnoebjmhimehcaa.P Go.Proofs.YtnoebjmhimehcaaW.PrintWords Go.Proofs.YtnoebjmhimehcaaW.PrintMore

theorem plain_ev (nm : ByteArray) {ps : List Pla} {ts : List Tra} (hp : ps.length ≤ 1000000) (ht : ts.length ≤ 1000000) (hT : Thin ts) : Ev (fun k => net_Plain.f k nm ps ts) (plainS (validS nm ps ts) ps ts) := by
 have h1 := Ev_loop (L := fun k i => net_Plain.l1 k ps (ps.length : Int) (i : Int) nm ps ts) (n := ps.length) 1 (fun i => if (ps.getD i zP).f2 ≠ 0 then some false else none) (e := validS nm ps ts)
   (fun k i hi => by
     simp only [net_Plain.l1]
     rw [if_pos (by omega), if_pos (by omega), if_pos (by omega), rdP, wrap_up hi (by omega)]
     by_cases c : (ps.getD i zP).f2 = 0
     · rw [if_pos c, if_neg (by simpa using c)]; rfl
     · rw [if_neg c, if_pos c]; rfl)
   (Ev.step (f := fun k => (net_valid.f k nm ps ts).bind fun t => some t) (fun k => by simp only [net_Plain.l1]; rw [if_neg (by omega)]) (Ev.bind (valid_ev nm hT) (Ev.some _)))
 exact Ev_loop (L := fun k i => net_Plain.l0 k ts (ts.length : Int) (i : Int) nm ps ts) (n := ts.length) 1 (fun i => if ((ts.getD i zT).f3.length : Int) > 0 ∨ (ts.getD i zT).f4 ≠ 0 then some false else none) (e := plainP ps (validS nm ps ts))
   (fun k i hi => by
     simp only [net_Plain.l0]
     rw [if_pos (by omega), if_pos (by omega), if_pos (by omega), rdT, wrap_up hi (by omega)]
     by_cases c1 : ((ts.getD i zT).f3.length : Int) > 0
     · rw [if_pos c1, if_pos (Or.inl c1)]; rfl
     · rw [if_neg c1]
       by_cases c2 : (ts.getD i zT).f4 = 0
       · rw [if_pos c2, if_neg (fun h => h.elim c1 (fun h => h c2))]; rfl
       · rw [if_neg c2, if_pos (Or.inr c2)]; rfl)
   (Ev.step (f := fun k => net_Plain.l1 k ps (ps.length : Int) ((0 : Nat) : Int) nm ps ts) (fun k => by simp only [net_Plain.l0]; rw [if_neg (by omega)]; rfl) h1)
end Go.Proofs.Ytnoebjmhimehcaa.Pl
/- Whether a net is plain, ordinary: the reference's texts. -/
namespace Go.Proofs.Ytnoebjmhimehcaa.Pl
open Go.RowKit Go.Proofs.Ytnoebjmhimehcaa.P Go.Proofs.YtnoebjmhimehcaaW.PrintWords Go.Proofs.YtnoebjmhimehcaaW.PrintMore

theorem refplain_ev (nm : ByteArray) {ps : List Pla} {ts : List Tra} (hp : ps.length ≤ 1000000) (ht : ts.length ≤ 1000000) (hT : Thin ts) : Ev (fun k => r09_Plain.f k nm ps ts) (plainS (validS nm ps ts) ps ts) := by
 rw [plain_swap]
 unfold r09_Plain.f
 refine Ev.bind (refvalid_ev nm hT) ?_
 by_cases hv : validS nm ps ts = true
 · simp only [hv, ↓reduceIte]
   have h1 := Ev_loop (L := fun k i => r09_Plain.l1 k (i : Int) nm ps ts) (n := ts.length) 1 (fun i => if ((ts.getD i zT).f3.length : Int) > 0 ∨ (ts.getD i zT).f4 ≠ 0 then some false else none) (e := true)
     (fun k i hi => by
       simp only [r09_Plain.l1]
       rw [if_pos (by omega), if_pos (by omega), rdT, wrap_up hi (by omega)]
       by_cases c1 : ((ts.getD i zT).f3.length : Int) > 0
       · rw [if_pos c1, if_pos (Or.inl c1)]; rfl
       · rw [if_neg c1]
         by_cases c2 : (ts.getD i zT).f4 = 0
         · rw [if_pos c2, if_neg (fun h => h.elim c1 (fun h => h c2))]; rfl
         · rw [if_neg c2, if_pos (Or.inr c2)]; rfl)
     (Ev.one (fun k => by simp only [r09_Plain.l1]; rw [if_neg (by omega)]))
   exact Ev_loop (L := fun k i => r09_Plain.l0 k (i : Int) nm ps ts) (n := ps.length) 1 (fun i => if (ps.getD i zP).f2 ≠ 0 then some false else none) (e := plainT ts true)
     (fun k i hi => by
       simp only [r09_Plain.l0]
       rw [if_pos (by omega), if_pos (by omega), rdP, wrap_up hi (by omega)]
       by_cases c : (ps.getD i zP).f2 = 0
       · rw [if_pos c, if_neg (by simpa using c)]; rfl
       · rw [if_neg c, if_pos c]; rfl)
     (Ev.step (f := fun k => r09_Plain.l1 k ((0 : Nat) : Int) nm ps ts) (fun k => by simp only [r09_Plain.l0]; rw [if_neg (by omega)]; rfl) h1)
 · simp only [hv]; exact Ev.some _
end Go.Proofs.Ytnoebjmhimehcaa.Pl
/- The problems of a net, by both texts. -/
namespace Go.Proofs.Ytnoebjmhimehcaa.Pl
set_option linter.unusedVariables false
open Go.RowKit Go.Proofs.Ytnoebjmhimehcaa.P Go.Proofs.YtnoebjmhimehcaaW.PrintWords Go.Proofs.YtnoebjmhimehcaaW.PrintMore

abbrev Dg := S50
/-- What is told of a node that is not on a path. -/
def offD (K v : Nat) : Dg := if v < K then ⟨3, (v : Int)⟩ else ⟨4, (v : Int) - (K : Int)⟩
def oneD (s t : Int) : List Dg := if s = t then [⟨3, s⟩] else []
theorem oneD_len (s t : Int) : (oneD s t).length ≤ 1 := by unfold oneD; split <;> simp
/-- The problems of a net with a source and a sink. -/
noncomputable def pathD (ps : List Pla) (ts : List Tra) (s t : Int) : List Dg := oneD s t ++ (offN (flowS true ps ts) s.toNat t.toNat (ps.length + ts.length)).map (offD ps.length)
noncomputable def endD (ps : List Pla) (ts : List Tra) (s t : Int × Bool) : List Dg :=
 if s.2 = true then (if t.2 = true then pathD ps ts s.1 t.1 else [⟨2, 0⟩]) else (if t.2 = true then [⟨1, 0⟩] else [⟨1, 0⟩, ⟨2, 0⟩])
noncomputable def probS (nm : ByteArray) (ps : List Pla) (ts : List Tra) : List Dg × Int :=
 if (checkS nm ps ts).1 = 0 then (if plainS (validS nm ps ts) ps ts = true then (endD ps ts (onlyS (validS nm ps ts) ps.length (prodF ts)) (onlyS (validS nm ps ts) ps.length (consF ts)), 0) else ([], 12)) else ([], (checkS nm ps ts).1)
theorem onlyS_true {v : Bool} {K : Nat} {f : Nat → List Int} {x : Int} (h : onlyS v K f = (x, true)) : ∃ p : Nat, p < K ∧ x = (p : Int) ∧ endsN f K = [p] := by
 unfold onlyS at h
 cases v with
 | false => rw [if_neg Bool.false_ne_true] at h; cases h
 | true =>
   rw [if_pos rfl] at h
   match e : endsN f K with
   | [] => rw [e] at h; cases h
   | [p] =>
     rw [e] at h
     have hm : p ∈ endsN f K := by rw [e]; simp
     unfold endsN at hm
     rw [List.mem_filter, List.mem_range] at hm
     exact ⟨p, hm.1, (Prod.mk.inj h).1.symm, rfl⟩
   | p :: q :: r => rw [e] at h; cases h
section
variable {nm : ByteArray} {ps : List Pla} {ts : List Tra}
theorem probl_ev {on : List Bool} {G : List (List Int)} {s t K N : Nat} (hl : on.length = N) (ho : ∀ v, v < N → on.getD v false = onB G s t v) (hN : N ≤ 1000) (hK : K ≤ 1000) (d0 : List Dg) (hd : d0.length ≤ 1) :
   Ev (fun k => workflow_Problems.l0 k on (K : Int) 0 d0) (d0 ++ (offN G s t N).map (offD K), 0) := by
 refine Ev.congr (fun k => show workflow_Problems.l0 k on (K : Int) 0 d0 = workflow_Problems.l0 k on (K : Int) ((0 : Nat) : Int) (d0 ++ (offN G s t 0).map (offD K)) by simp [offN]) ?_
 refine Ev_up (L := fun k i => workflow_Problems.l0 k on (K : Int) (i : Int) (d0 ++ (offN G s t i).map (offD K))) (n := N) (fun i hi h => ?_) (Ev.one fun k => by simp only [workflow_Problems.l0]; rw [if_neg (by omega)])
 have hlen : (d0 ++ (offN G s t i).map (offD K)).length < 1000000 := by rw [List.length_append, List.length_map]; have := offN_len G s t i; omega
 rw [offN_succ] at h
 by_cases c : onB G s t i = true
 · rw [if_pos c] at h
   refine Ev.step (fun k => ?_) h
   simp only [workflow_Problems.l0]
   rw [if_pos (by omega), if_pos (by omega), rdOf_nat, if_pos (by rw [ho i hi]; exact c), wrap_up hi (by omega)]
 · rw [if_neg c, List.map_append, ← List.append_assoc] at h
   refine Ev.step (fun k => ?_) h
   simp only [workflow_Problems.l0]
   rw [if_pos (by omega), if_pos (by omega), rdOf_nat, if_neg (by rw [ho i hi]; exact c), if_pos hlen, wrap_up hi (by omega)]
   congr 2
   unfold offD
   by_cases e : i < K
   · rw [if_pos (by omega)]; simp only [List.map_cons, List.map_nil]; rw [if_pos e]
   · rw [if_neg (by omega)]; simp only [List.map_cons, List.map_nil]; rw [if_neg e, wrap_ok (by omega) (by omega)]
theorem problems_ev (hp : ps.length ≤ 1000000) (ht : ts.length ≤ 1000000) (hT : Thin ts) : Ev (fun k => workflow_Problems.f k nm ps ts) (probS nm ps ts) := by
 unfold workflow_Problems.f probS
 refine Ev.bind (check_ev nm hT) ?_
 by_cases c : (checkS nm ps ts).1 = 0
 · rw [if_pos c]
   refine Ev.congr (fun k => if_pos c) ?_
   refine Ev.bind (plain_ev nm hp ht hT) ?_
   by_cases d : plainS (validS nm ps ts) ps ts = true
   · rw [if_pos d]
     refine Ev.congr (fun k => if_pos d) ?_
     refine Ev.bind (onlyProducers_ev ht hp hT) (Ev.bind (onlyConsumers_ev ht hp hT) ?_)
     have hv : validS nm ps ts = true := by unfold validS; rw [c]; rfl
     have V := validS_iff.1 hv
     have vp := V.p
     have vt := V.t
     unfold endD
     match es : onlyS (validS nm ps ts) ps.length (prodF ts), et : onlyS (validS nm ps ts) ps.length (consF ts) with
     | (s, true), (t, true) =>
       obtain ⟨a, a1, a2, _⟩ := onlyS_true es
       obtain ⟨b, b1, b2, _⟩ := onlyS_true et
       subst a2 b2
       simp only [↓reduceIte]
       obtain ⟨on, o1, o2, o3⟩ := onpath_ev V hT a b
       refine Ev.bind o1 ?_
       unfold pathD
       rw [Int.toNat_natCast, Int.toNat_natCast]
       exact probl_ev o2 o3 (by omega) (by omega) (oneD a b) (oneD_len _ _)
     | (s, true), (t, false) => exact Ev.some _
     | (s, false), (t, true) => exact Ev.some _
     | (s, false), (t, false) => exact Ev.some _
   · rw [if_neg d]
     exact Ev.congr (fun k => if_neg d) (Ev.some _)
 · rw [if_neg c]
   exact Ev.congr (fun k => if_neg c) (Ev.some _)
theorem refl_ev {L : List Nat} {N : Nat} (hN : N ≤ 1000) (hL : L.length ≤ N) (hm : ∀ v ∈ L, v < N) (hp : ps.length ≤ 1000) (d0 : List Dg) (hd : d0.length ≤ 1) :
   Ev (fun k => r43_Problems.l0 k d0 (L.map (fun v : Nat => (v : Int))) 0 nm ps ts) (d0 ++ L.map (offD ps.length), 0) := by
 refine Ev.congr (fun k => show r43_Problems.l0 k d0 (L.map (fun v : Nat => (v : Int))) 0 nm ps ts = r43_Problems.l0 k (d0 ++ (L.take 0).map (offD ps.length)) (L.map (fun v : Nat => (v : Int))) ((0 : Nat) : Int) nm ps ts by simp) ?_
 refine Ev_up (L := fun k i => r43_Problems.l0 k (d0 ++ (L.take i).map (offD ps.length)) (L.map (fun v : Nat => (v : Int))) (i : Int) nm ps ts) (n := L.length) (fun i hi h => ?_) (Ev.one fun k => by simp only [r43_Problems.l0]; rw [if_neg (by rw [List.length_map]; omega), List.take_length])
 have hlen : (d0 ++ (L.take i).map (offD ps.length)).length < 8796093022208 := by rw [List.length_append, List.length_map, List.length_take]; omega
 obtain ⟨v, hv⟩ : ∃ v, v = L[i] := ⟨_, rfl⟩
 have hvN : v < N := hm v (by rw [hv]; exact List.getElem_mem hi)
 have hr : rd (L.map (fun v : Nat => (v : Int))) (i : Int) = (v : Int) := by
   rw [rd_nat, List.getD_eq_getElem?_getD, List.getElem?_map, List.getElem?_eq_getElem hi, hv]; rfl
 rw [List.take_succ_eq_append_getElem hi, List.map_append, ← List.append_assoc, ← hv] at h
 refine Ev.step (fun k => ?_) h
 simp only [r43_Problems.l0]
 rw [if_pos (by rw [List.length_map]; omega), if_pos (by omega), hr]
 simp only [List.map_cons, List.map_nil]
 by_cases e : v < ps.length
 · have o : offD ps.length v = ⟨3, (v : Int)⟩ := if_pos e
   rw [if_pos (by omega), if_pos hlen, o, wrap_up hi (by omega)]
 · have o : offD ps.length v = ⟨4, (v : Int) - (ps.length : Int)⟩ := if_neg e
   rw [if_neg (by omega), if_pos hlen, o, wrap_up hi (by omega), wrap_ok (by omega) (by omega)]
theorem offN_mem {G : List (List Int)} {s t N v : Nat} (h : v ∈ offN G s t N) : v < N := by unfold offN at h; rw [List.mem_filter, List.mem_range] at h; exact h.1
theorem refproblems_ev (hp : ps.length ≤ 1000000) (ht : ts.length ≤ 1000000) (hT : Thin ts) : Ev (fun k => r43_Problems.f k nm ps ts) (probS nm ps ts) := by
 unfold r43_Problems.f probS
 refine Ev.bind (refcheck_ev nm hT) ?_
 by_cases c : (checkS nm ps ts).1 = 0
 · rw [if_pos c]
   refine Ev.congr (fun k => if_pos c) ?_
   refine Ev.bind (refplain_ev nm hp ht hT) ?_
   by_cases d : plainS (validS nm ps ts) ps ts = true
   · rw [if_pos d]
     refine Ev.congr (fun k => if_pos d) ?_
     refine Ev.bind (refsource_ev hp ht hT) (Ev.bind (refsink_ev hp ht hT) ?_)
     have hv : validS nm ps ts = true := by unfold validS; rw [c]; rfl
     have V := validS_iff.1 hv
     have vp := V.p
     have vt := V.t
     unfold endD
     match es : onlyS (validS nm ps ts) ps.length (prodF ts), et : onlyS (validS nm ps ts) ps.length (consF ts) with
     | (s, true), (t, true) =>
       obtain ⟨a, a1, a2, _⟩ := onlyS_true es
       obtain ⟨b, b1, b2, _⟩ := onlyS_true et
       subst a2 b2
       simp only [↓reduceIte]
       have fin : ∀ d0 : List Dg, d0.length ≤ 1 → Ev (fun k => r43_Problems.j3 k d0 (a : Int) (b : Int) nm ps ts) (d0 ++ (offN (flowS true ps ts) a b (ps.length + ts.length)).map (offD ps.length), 0) := by
         intro d0 hd
         have h1 := refl_ev (nm := nm) (ps := ps) (ts := ts) (N := ps.length + ts.length) (L := offN (flowS true ps ts) a b (ps.length + ts.length)) (by omega) (offN_len _ _ _ _) (fun v => offN_mem) (by omega) d0 hd
         have h2 : Ev (fun k => (r43_off.f k nm ps ts (a : Int) (b : Int)).bind fun t548 => r43_Problems.l0 k d0 t548 0 nm ps ts) _ := Ev.bind (off_ev V hT a b) h1
         exact Ev.step (fun k => by simp only [r43_Problems.j3]) h2
       refine Ev.step (fun k => by simp only [r43_Problems.j0]; rw [if_pos trivial]) ?_
       refine Ev.step (fun k => by simp only [r43_Problems.j1]; rw [if_pos trivial]) ?_
       unfold pathD oneD
       rw [Int.toNat_natCast, Int.toNat_natCast]
       by_cases e : (a : Int) = (b : Int)
       · rw [if_pos e]
         exact Ev.step (fun k => by simp only [r43_Problems.j2]; rw [if_neg (by simp), if_pos e, if_pos (by simp)]; rfl) (fin [⟨3, (a : Int)⟩] (by simp))
       · rw [if_neg e]
         exact Ev.step (fun k => by simp only [r43_Problems.j2]; rw [if_neg (by simp), if_neg e]) (fin [] (by simp))
     | (s, true), (t, false) =>
       simp only [↓reduceIte]
       refine Ev.step (fun k => by simp only [r43_Problems.j0]; rw [if_neg Bool.false_ne_true, if_pos (by simp)]) ?_
       refine Ev.step (fun k => by simp only [r43_Problems.j1]; rw [if_pos trivial]) ?_
       exact Ev.one fun k => by simp [r43_Problems.j2]
     | (s, false), (t, true) =>
       refine Ev.congr (fun k => by rw [if_neg Bool.false_ne_true, if_pos (by simp)]) ?_
       refine Ev.step (fun k => by simp only [r43_Problems.j0]; rw [if_pos trivial]) ?_
       refine Ev.step (fun k => by simp only [r43_Problems.j1]; rw [if_neg Bool.false_ne_true]) ?_
       exact Ev.one fun k => by simp [r43_Problems.j2]
     | (s, false), (t, false) =>
       refine Ev.congr (fun k => by rw [if_neg Bool.false_ne_true, if_pos (by simp)]) ?_
       refine Ev.step (fun k => by simp only [r43_Problems.j0]; rw [if_neg Bool.false_ne_true, if_pos (by simp)]) ?_
       refine Ev.step (fun k => by simp only [r43_Problems.j1]; rw [if_neg Bool.false_ne_true]) ?_
       exact Ev.one fun k => by simp [r43_Problems.j2]
   · rw [if_neg d]
     exact Ev.congr (fun k => if_neg d) (Ev.some _)
 · rw [if_neg c]
   exact Ev.congr (fun k => if_neg c) (Ev.some _)
end
end Go.Proofs.Ytnoebjmhimehcaa.Pl
/- Whether a net is a workflow net, by both texts. -/
namespace Go.Proofs.Ytnoebjmhimehcaa.Pl
set_option linter.unusedVariables false
open Go.RowKit Go.Proofs.Ytnoebjmhimehcaa.P Go.Proofs.YtnoebjmhimehcaaW.PrintWords Go.Proofs.YtnoebjmhimehcaaW.PrintMore
noncomputable def isS (nm : ByteArray) (ps : List Pla) (ts : List Tra) : Bool := if (probS nm ps ts).2 = 0 then (((probS nm ps ts).1.length : Int) == 0) else false
theorem refis_ev {nm : ByteArray} {ps : List Pla} {ts : List Tra} (hp : ps.length ≤ 1000000) (ht : ts.length ≤ 1000000) (hT : Thin ts) : Ev (fun k => r43_Is.f k nm ps ts) (isS nm ps ts) := by
 unfold r43_Is.f isS
 refine Ev.bind (refproblems_ev hp ht hT) ?_
 by_cases c : (probS nm ps ts).2 = 0
 · rw [if_pos c, if_pos c]; exact Ev.some _
 · rw [if_neg c, if_neg c]; exact Ev.some _
end Go.Proofs.Ytnoebjmhimehcaa.Pl
/- Prepared nets, by both texts. -/
namespace Go.Proofs.Ytnoebjmhimehcaa.Pl
set_option linter.unusedVariables false
open Go.RowKit Go.Proofs.Ytnoebjmhimehcaa.P Go.Proofs.YtnoebjmhimehcaaW.PrintWords Go.Proofs.YtnoebjmhimehcaaW.PrintMore

/-- A place of the prepared net. -/
def prP (s : Int) (ps : List Pla) (i : Nat) : Pla := ⟨(ps.getD i zP).f0, if (i : Int) = s then 1 else 0, 0⟩
def prT (t : Tra) : Tra := ⟨t.f0, t.f1, t.f2, [], 0⟩
def prepP (s : Int) (ps : List Pla) : List Pla := mr ps.length (prP s ps)
def prepT (ts : List Tra) : List Tra := ts.map prT
noncomputable def prepS (nm : ByteArray) (ps : List Pla) (ts : List Tra) : ByteArray × List Pla × List Tra × Int :=
 if (probS nm ps ts).2 = 0 then (if (probS nm ps ts).1.length = 0 then (nm, prepP (onlyS (validS nm ps ts) ps.length (prodF ts)).1 ps, prepT ts, 0) else (⟨#[]⟩, [], [], 15)) else (⟨#[]⟩, [], [], (probS nm ps ts).2)
section
variable {nm : ByteArray} {ps : List Pla} {ts : List Tra}
theorem prob_zero (h : (probS nm ps ts).2 = 0) : validS nm ps ts = true ∧ plainS (validS nm ps ts) ps ts = true ∧ (probS nm ps ts).1 = endD ps ts (onlyS (validS nm ps ts) ps.length (prodF ts)) (onlyS (validS nm ps ts) ps.length (consF ts)) := by
 unfold probS at h ⊢
 by_cases c : (checkS nm ps ts).1 = 0
 · have v : validS nm ps ts = true := by unfold validS; rw [c]; rfl
   rw [if_pos c] at h ⊢
   by_cases d : plainS (validS nm ps ts) ps ts = true
   · rw [if_pos d]; exact ⟨v, d, rfl⟩
   · rw [if_neg d] at h; cases h
 · rw [if_neg c] at h; exact absurd h c
theorem plain_at (h : plainS (validS nm ps ts) ps ts = true) : (∀ i, i < ps.length → (ps.getD i zP).f2 = 0) ∧ ∀ i, i < ts.length → (ts.getD i zT).f3 = [] ∧ (ts.getD i zT).f4 = 0 := by
 unfold plainS at h
 rw [plainT_eq] at h
 by_cases c : ∃ i, i < ts.length ∧ (((ts.getD i zT).f3.length : Int) > 0 ∨ (ts.getD i zT).f4 ≠ 0)
 · rw [if_pos c] at h; cases h
 · rw [if_neg c, plainP_eq] at h
   by_cases d : ∃ i, i < ps.length ∧ (ps.getD i zP).f2 ≠ 0
   · rw [if_pos d] at h; cases h
   · refine ⟨fun i hi => Classical.byContradiction fun e => d ⟨i, hi, e⟩, fun i hi => ⟨?_, ?_⟩⟩
     · refine List.eq_nil_of_length_eq_zero (Classical.byContradiction fun e => c ⟨i, hi, Or.inl (by omega)⟩)
     · exact Classical.byContradiction fun e => c ⟨i, hi, Or.inr e⟩
theorem prepP_len (s : Int) : (prepP s ps).length = ps.length := mr_len _ _
theorem prepT_len : (prepT ts).length = ts.length := List.length_map _
theorem prep_map (i : Nat) (hi : i < ts.length) : (ts.take (i + 1)).map prT = (ts.take i).map prT ++ [prT (ts.getD i zT)] := take_map_succ ts prT zT hi
theorem prepare_ev (hp : ps.length ≤ 100000) (ht : ts.length ≤ 100000) (hT : Thin ts) : Ev (fun k => workflow_Prepare.f k nm ps ts) (prepS nm ps ts) := by
 unfold workflow_Prepare.f prepS
 refine Ev.bind (problems_ev (by omega) (by omega) hT) ?_
 by_cases c : (probS nm ps ts).2 = 0
 · rw [if_pos c]
   refine Ev.congr (fun k => if_pos c) ?_
   by_cases d : (probS nm ps ts).1.length = 0
   · rw [if_pos d]
     refine Ev.congr (fun k => if_neg (by omega)) ?_
     refine Ev.bind (onlyProducers_ev (by omega) (by omega) hT) ?_
     obtain ⟨hv, hpl, _⟩ := prob_zero c
     obtain ⟨q1, q2⟩ := plain_at hpl
     obtain ⟨s, es⟩ : ∃ s, s = (onlyS (validS nm ps ts) ps.length (prodF ts)).1 := ⟨_, rfl⟩
     rw [← es]
     have second : Ev (fun k => workflow_Prepare.l1 k ts (ts.length : Int) 0 nm (prepP s ps) []) (nm, prepP s ps, prepT ts, 0) := by
       refine Ev.congr (fun k => show workflow_Prepare.l1 k ts (ts.length : Int) 0 nm (prepP s ps) [] = workflow_Prepare.l1 k ts (ts.length : Int) ((0 : Nat) : Int) nm (prepP s ps) ((ts.take 0).map prT) by simp) ?_
       refine Ev_up (L := fun k i => workflow_Prepare.l1 k ts (ts.length : Int) (i : Int) nm (prepP s ps) ((ts.take i).map prT)) (n := ts.length) (fun i hi h => ?_) (Ev.one fun k => by simp only [workflow_Prepare.l1]; rw [if_neg (by omega), List.take_length]; rfl)
       have hth := hT.at hi
       have hlen : ((ts.take i).map prT).length < 1000000 := by rw [List.length_map, List.length_take]; omega
       rw [prep_map i hi] at h
       refine Ev.step (fun k => ?_) h
       simp only [workflow_Prepare.l1, workflow_arcs.f]
       rw [if_pos (by omega), if_pos (by omega), if_pos (by omega), rdT, if_pos hth.2.1]
       simp only [Option.bind_some]
       rw [if_pos hth.2.2.1]
       simp only [Option.bind_some]
       rw [if_pos (by omega), wrap_up hi (by omega), (q2 i hi).2]
       rfl
     refine Ev.congr (fun k => show workflow_Prepare.l0 k s ps (ps.length : Int) 0 nm ps ts nm [] = workflow_Prepare.l0 k s ps (ps.length : Int) ((0 : Nat) : Int) nm ps ts nm (mr 0 (prP s ps)) by simp; rfl) ?_
     refine Ev_up (L := fun k i => workflow_Prepare.l0 k s ps (ps.length : Int) (i : Int) nm ps ts nm (mr i (prP s ps))) (n := ps.length) (fun i hi h => ?_) (Ev.step (fun k => by simp only [workflow_Prepare.l0]; rw [if_neg (by omega)]; rfl) second)
     have hlen : (mr i (prP s ps)).length < 1000000 := by rw [mr_len]; omega
     rw [mr_snoc] at h
     refine Ev.step (fun k => ?_) h
     simp only [workflow_Prepare.l0]
     rw [if_pos (by omega), if_pos (by omega), if_pos (by omega), rdP, q1 i hi]
     by_cases e : (i : Int) = s
     · have o : prP s ps i = ⟨(ps.getD i zP).f0, 1, 0⟩ := by unfold prP; rw [if_pos e]
       rw [if_pos e, if_pos (by omega), wrap_up hi (by omega), o]
     · have o : prP s ps i = ⟨(ps.getD i zP).f0, 0, 0⟩ := by unfold prP; rw [if_neg e]
       rw [if_neg e, if_pos (by omega), wrap_up hi (by omega), o]
   · rw [if_neg d]
     exact Ev.congr (fun k => if_pos (by omega)) (Ev.some _)
 · rw [if_neg c]
   exact Ev.congr (fun k => if_neg c) (Ev.some _)
theorem isS_eq : isS nm ps ts = decide ((probS nm ps ts).2 = 0 ∧ (probS nm ps ts).1.length = 0) := by
 unfold isS
 by_cases c : (probS nm ps ts).2 = 0
 · rw [if_pos c]
   by_cases d : (probS nm ps ts).1.length = 0
   · rw [decide_eq_true ⟨c, d⟩, d]; rfl
   · rw [decide_eq_false (fun h => d h.2), beq_eq_false_iff_ne]; omega
 · rw [if_neg c, decide_eq_false (fun h => c h.1)]
noncomputable def mayS (nm : ByteArray) (ps : List Pla) (ts : List Tra) : Int := if (probS nm ps ts).2 = 0 then (if (probS nm ps ts).1.length = 0 then 0 else 15) else (probS nm ps ts).2
theorem may_ev (hp : ps.length ≤ 100000) (ht : ts.length ≤ 100000) (hT : Thin ts) : Ev (fun k => r43_may.f k nm ps ts) (mayS nm ps ts) := by
 unfold r43_may.f mayS
 refine Ev.bind (refproblems_ev (by omega) (by omega) hT) ?_
 by_cases c : (probS nm ps ts).2 = 0
 · rw [if_pos c]
   refine Ev.congr (fun k => if_pos c) ?_
   refine Ev.bind (refis_ev (by omega) (by omega) hT) ?_
   rw [isS_eq]
   by_cases d : (probS nm ps ts).1.length = 0
   · rw [if_pos d, decide_eq_true ⟨c, d⟩]; exact Ev.some _
   · rw [if_neg d, decide_eq_false (fun h => d h.2)]; exact Ev.some _
 · rw [if_neg c]
   exact Ev.congr (fun k => if_neg c) (Ev.some _)
theorem may_prep : (prepS nm ps ts).2.2.2 = mayS nm ps ts := by
 unfold prepS mayS
 split
 · split <;> rfl
 · rfl
theorem prepS_zero (h : mayS nm ps ts = 0) : prepS nm ps ts = (nm, prepP (onlyS (validS nm ps ts) ps.length (prodF ts)).1 ps, prepT ts, 0) ∧ (probS nm ps ts).2 = 0 ∧ (probS nm ps ts).1.length = 0 := by
 unfold mayS at h
 unfold prepS
 by_cases c : (probS nm ps ts).2 = 0
 · rw [if_pos c] at h ⊢
   by_cases d : (probS nm ps ts).1.length = 0
   · rw [if_pos d]; exact ⟨rfl, c, d⟩
   · rw [if_neg d] at h; cases h
 · rw [if_neg c] at h; exact absurd h c
theorem prepS_else (h : mayS nm ps ts ≠ 0) : prepS nm ps ts = (⟨#[]⟩, [], [], mayS nm ps ts) := by
 unfold mayS at h ⊢
 unfold prepS
 by_cases c : (probS nm ps ts).2 = 0
 · rw [if_pos c] at h ⊢
   by_cases d : (probS nm ps ts).1.length = 0
   · rw [if_pos d] at h; exact absurd rfl h
   · rw [if_neg d, if_pos c, if_neg d]
 · rw [if_neg c, if_neg c]
theorem refprepare_ev (hp : ps.length ≤ 100000) (ht : ts.length ≤ 100000) (hT : Thin ts) : Ev (fun k => r43_Prepare.f k nm ps ts) (prepS nm ps ts) := by
 unfold r43_Prepare.f
 refine Ev.bind (may_ev hp ht hT) ?_
 by_cases c : mayS nm ps ts = 0
 · refine Ev.congr (fun k => if_pos c) ?_
   rw [(prepS_zero c).1]
   refine Ev.bind (refsource_ev (by omega) (by omega) hT) ?_
   obtain ⟨s, es⟩ : ∃ s, s = (onlyS (validS nm ps ts) ps.length (prodF ts)).1 := ⟨_, rfl⟩
   rw [← es]
   have second : Ev (fun k => r43_Prepare.l1 k 0 nm ps ts nm (prepP s ps) []) (nm, prepP s ps, prepT ts, 0) := by
     refine Ev.congr (fun k => show r43_Prepare.l1 k 0 nm ps ts nm (prepP s ps) [] = r43_Prepare.l1 k ((0 : Nat) : Int) nm ps ts nm (prepP s ps) ((ts.take 0).map prT) by simp) ?_
     refine Ev_up (L := fun k i => r43_Prepare.l1 k (i : Int) nm ps ts nm (prepP s ps) ((ts.take i).map prT)) (n := ts.length) (fun i hi h => ?_) (Ev.one fun k => by simp only [r43_Prepare.l1]; rw [if_neg (by omega), List.take_length]; rfl)
     have hth := hT.at hi
     have h1 := hth.2.1
     have h2 := hth.2.2.1
     have hlen : ((ts.take i).map prT).length < 1000000 := by rw [List.length_map, List.length_take]; omega
     rw [prep_map i hi] at h
     refine Ev.step (fun k => ?_) h
     simp only [r43_Prepare.l1]
     rw [if_pos (by omega), if_pos (by omega), rdT, if_pos (by rw [List.length_nil]; omega), if_pos (by rw [List.length_nil]; omega), if_pos (by omega), wrap_up hi (by omega)]
     rfl
   refine Ev.congr (fun k => show r43_Prepare.l0 k s 0 nm ps ts nm [] = r43_Prepare.l0 k s ((0 : Nat) : Int) nm ps ts nm (mr 0 (prP s ps)) by simp; rfl) ?_
   refine Ev_up (L := fun k i => r43_Prepare.l0 k s (i : Int) nm ps ts nm (mr i (prP s ps))) (n := ps.length) (fun i hi h => ?_) (Ev.step (fun k => by simp only [r43_Prepare.l0]; rw [if_neg (by omega)]; rfl) second)
   have hlen : (mr i (prP s ps)).length < 1000000 := by rw [mr_len]; omega
   rw [mr_snoc] at h
   refine Ev.step (fun k => ?_) h
   simp only [r43_Prepare.l0]
   rw [if_pos (by omega), rdP]
   by_cases e : (i : Int) = s
   · have o : prP s ps i = ⟨(ps.getD i zP).f0, 1, 0⟩ := by unfold prP; rw [if_pos e]
     rw [if_pos e, if_pos (by omega), if_pos (by omega), wrap_up hi (by omega), o]
   · have o : prP s ps i = ⟨(ps.getD i zP).f0, 0, 0⟩ := by unfold prP; rw [if_neg e]
     rw [if_neg e, if_pos (by omega), if_pos (by omega), wrap_up hi (by omega), o]
 · rw [prepS_else c]
   exact Ev.congr (fun k => if_neg c) (Ev.some _)
end
end Go.Proofs.Ytnoebjmhimehcaa.Pl
/- What the program's functions over nets answer: places and transitions by name. -/
namespace Go.Proofs.Ytnoebjmhimehcaa.Pl
set_option linter.unusedVariables false
open Go.RowKit Go.Proofs.Ytnoebjmhimehcaa.P Go.Proofs.YtnoebjmhimehcaaW.PrintWords Go.Proofs.YtnoebjmhimehcaaW.PrintMore

theorem place_ev (nm : ByteArray) {ps : List Pla} {ts : List Tra} (s : ByteArray) (hp : ps.length ≤ 1000000) (hT : Thin ts) : Ev (fun k => net_Place.f k nm ps ts s) (placeS (validS nm ps ts) ps s) := by
 unfold net_Place.f placeS
 refine Ev.bind (valid_ev nm hT) ?_
 by_cases hv : validS nm ps ts = true
 · simp only [hv, ↓reduceIte]
   exact Ev_loop (L := fun k i => net_Place.l0 k s ps (ps.length : Int) (i : Int)) 1 _ (fun k i hi => by
     simp only [net_Place.l0]
     rw [if_pos (by omega), if_pos (by omega), if_pos (by omega), rdP, wrap_up hi (by omega)]
     by_cases c : (ps.getD i zP).f0.toList = s.toList
     · rw [if_pos c, if_pos c]; rfl
     · rw [if_neg c, if_neg c]; rfl) (Ev.one (fun k => by simp only [net_Place.l0]; rw [if_neg (by omega)]))
 · simp only [hv]; exact Ev.some _
theorem trans_ev (nm : ByteArray) {ps : List Pla} {ts : List Tra} (s : ByteArray) (ht : ts.length ≤ 1000000) (hT : Thin ts) : Ev (fun k => net_Trans.f k nm ps ts s) (transS (validS nm ps ts) ts s) := by
 unfold net_Trans.f transS
 refine Ev.bind (valid_ev nm hT) ?_
 by_cases hv : validS nm ps ts = true
 · simp only [hv, ↓reduceIte]
   exact Ev_loop (L := fun k i => net_Trans.l0 k s ts (ts.length : Int) (i : Int)) 1 _ (fun k i hi => by
     simp only [net_Trans.l0]
     rw [if_pos (by omega), if_pos (by omega), if_pos (by omega), rdT, wrap_up hi (by omega)]
     by_cases c : (ts.getD i zT).f0.toList = s.toList
     · rw [if_pos c, if_pos c]; rfl
     · rw [if_neg c, if_neg c]; rfl) (Ev.one (fun k => by simp only [net_Trans.l0]; rw [if_neg (by omega)]))
 · simp only [hv]; exact Ev.some _
end Go.Proofs.Ytnoebjmhimehcaa.Pl
/- What the reference's functions over nets answer: names and weights. -/
namespace Go.Proofs.Ytnoebjmhimehcaa.Pl
set_option linter.unusedVariables false
open Go.RowKit Go.Proofs.Ytnoebjmhimehcaa.P Go.Proofs.YtnoebjmhimehcaaW.PrintWords Go.Proofs.YtnoebjmhimehcaaW.PrintMore

theorem refplaceat_ev (nm : ByteArray) {ps : List Pla} {ts : List Tra} (s : ByteArray) (hp : ps.length ≤ 1000000) (hT : Thin ts) : Ev (fun k => r09_Place.f k nm ps ts s) (placeS (validS nm ps ts) ps s) := by
 unfold r09_Place.f placeS
 refine Ev.bind (refvalid_ev nm hT) ?_
 by_cases hv : validS nm ps ts = true
 · simp only [hv, ↓reduceIte]
   exact Ev_loop (L := fun k i => r09_Place.l0 k s (i : Int) nm ps ts) 1 _ (fun k i hi => by
     simp only [r09_Place.l0]
     rw [if_pos (by omega), if_pos (by omega), rdP, wrap_up hi (by omega)]
     by_cases c : (ps.getD i zP).f0.toList = s.toList
     · rw [if_pos c, if_pos c]; rfl
     · rw [if_neg c, if_neg c]; rfl) (Ev.one (fun k => by simp only [r09_Place.l0]; rw [if_neg (by omega)]))
 · simp only [hv]; exact Ev.some _
theorem reftransat_ev (nm : ByteArray) {ps : List Pla} {ts : List Tra} (s : ByteArray) (ht : ts.length ≤ 1000000) (hT : Thin ts) : Ev (fun k => r09_Trans.f k nm ps ts s) (transS (validS nm ps ts) ts s) := by
 unfold r09_Trans.f transS
 refine Ev.bind (refvalid_ev nm hT) ?_
 by_cases hv : validS nm ps ts = true
 · simp only [hv, ↓reduceIte]
   exact Ev_loop (L := fun k i => r09_Trans.l0 k s (i : Int) nm ps ts) 1 _ (fun k i hi => by
     simp only [r09_Trans.l0]
     rw [if_pos (by omega), if_pos (by omega), rdT, wrap_up hi (by omega)]
     by_cases c : (ts.getD i zT).f0.toList = s.toList
     · rw [if_pos c, if_pos c]; rfl
     · rw [if_neg c, if_neg c]; rfl) (Ev.one (fun k => by simp only [r09_Trans.l0]; rw [if_neg (by omega)]))
 · simp only [hv]; exact Ev.some _
end Go.Proofs.Ytnoebjmhimehcaa.Pl
/- Final markings and closed nets, by both texts. -/
namespace Go.Proofs.Ytnoebjmhimehcaa.Pl
set_option linter.unusedVariables false
open Go.RowKit Go.Proofs.Ytnoebjmhimehcaa.P Go.Proofs.YtnoebjmhimehcaaW.PrintWords Go.Proofs.YtnoebjmhimehcaaW.PrintMore

def finF (t : Int) (i : Nat) : Int := if (i : Int) = t then 1 else 0
noncomputable def finS (nm : ByteArray) (ps : List Pla) (ts : List Tra) : List Int × Int :=
 if mayS nm ps ts = 0 then (mr ps.length (finF (onlyS (validS nm ps ts) ps.length (consF ts)).1), 0) else ([], mayS nm ps ts)
abbrev closeN : ByteArray := ⟨#[95, 99, 108, 111, 115, 101]⟩
def closeT (s t : Int) : Tra := ⟨closeN, [⟨t, 1⟩], [⟨s, 1⟩], [], 0⟩
noncomputable def closeS (nm : ByteArray) (ps : List Pla) (ts : List Tra) : ByteArray × List Pla × List Tra × Int :=
 if mayS nm ps ts = 0 then
   (if ts.length ≥ 24 then (⟨#[]⟩, [], [], 2) else
    if transS true ts closeN ≥ 0 ∨ placeS true ps closeN ≥ 0 then (⟨#[]⟩, [], [], 6) else
    (nm, prepP (onlyS true ps.length (prodF ts)).1 ps, prepT ts ++ [closeT (onlyS true ps.length (prodF ts)).1 (onlyS true ps.length (consF ts)).1], 0))
 else (⟨#[]⟩, [], [], mayS nm ps ts)
section
variable {nm : ByteArray} {ps : List Pla} {ts : List Tra}
/-- A net without problems has a source and a sink, and they differ. -/
theorem may_ends (h : mayS nm ps ts = 0) : validS nm ps ts = true ∧ plainS (validS nm ps ts) ps ts = true ∧ ∃ a b : Nat, a < ps.length ∧ b < ps.length ∧ a ≠ b ∧ onlyS true ps.length (prodF ts) = ((a : Int), true) ∧ onlyS true ps.length (consF ts) = ((b : Int), true) ∧ offN (flowS true ps ts) a b (ps.length + ts.length) = [] := by
 obtain ⟨_, c, hl⟩ := prepS_zero h
 obtain ⟨v, p, e⟩ := prob_zero c
 rw [e] at hl
 rw [v] at hl
 refine ⟨v, p, ?_⟩
 unfold endD at hl
 match es : onlyS true ps.length (prodF ts), et : onlyS true ps.length (consF ts) with
 | (s, true), (t, true) =>
   rw [es, et] at hl
   obtain ⟨a, a1, a2, _⟩ := onlyS_true es
   obtain ⟨b, b1, b2, _⟩ := onlyS_true et
   subst a2 b2
   simp only [↓reduceIte] at hl
   unfold pathD oneD at hl
   rw [List.length_append, List.length_map, Int.toNat_natCast, Int.toNat_natCast] at hl
   refine ⟨a, b, a1, b1, fun hab => ?_, rfl, rfl, List.eq_nil_of_length_eq_zero (by omega)⟩
   rw [if_pos (by omega)] at hl
   simp at hl
 | (s, true), (t, false) => rw [es, et] at hl; simp at hl
 | (s, false), (t, true) => rw [es, et] at hl; simp at hl
 | (s, false), (t, false) => rw [es, et] at hl; simp at hl
theorem final_ev (hp : ps.length ≤ 100000) (ht : ts.length ≤ 100000) (hT : Thin ts) : Ev (fun k => workflow_Final.f k nm ps ts) (finS nm ps ts) := by
 unfold workflow_Final.f finS
 refine Ev.bind (prepare_ev hp ht hT) ?_
 rw [may_prep]
 by_cases c : mayS nm ps ts = 0
 · rw [if_pos c]
   refine Ev.congr (fun k => if_pos c) ?_
   obtain ⟨v, _, a, b, ha, hb, hab, e1, e2, _⟩ := may_ends c
   refine Ev.bind (onlyConsumers_ev (by omega) (by omega) hT) ?_
   rw [v, e2]
   refine Ev.congr (fun k => ?_) (Ev.some _)
   rw [if_pos (by omega), if_pos (by omega)]
   simp only [Option.bind_some]
   rw [if_pos (by omega), if_pos (by rw [List.length_replicate]; omega), Int.toNat_natCast, Int.toNat_natCast, mr_rep, mr_set]
   congr 2
   refine mr_congr fun i hi => ?_
   unfold finF
   by_cases q : i = b
   · rw [if_pos q, if_pos (by omega)]
   · rw [if_neg q, if_neg (by omega)]
 · rw [if_neg c]
   exact Ev.congr (fun k => if_neg c) (Ev.some _)
theorem reffinal_ev (hp : ps.length ≤ 100000) (ht : ts.length ≤ 100000) (hT : Thin ts) : Ev (fun k => r43_Final.f k nm ps ts) (finS nm ps ts) := by
 unfold r43_Final.f finS
 refine Ev.bind (may_ev hp ht hT) ?_
 by_cases c : mayS nm ps ts = 0
 · rw [if_pos c]
   refine Ev.congr (fun k => if_pos c) ?_
   refine Ev.bind (refsink_ev (by omega) (by omega) hT) ?_
   obtain ⟨s, es⟩ : ∃ s, s = (onlyS (validS nm ps ts) ps.length (consF ts)).1 := ⟨_, rfl⟩
   rw [← es]
   refine Ev.congr (fun k => show r43_Final.l0 k s [] 0 nm ps ts = r43_Final.l0 k s (mr 0 (finF s)) ((0 : Nat) : Int) nm ps ts by simp; rfl) ?_
   refine Ev_up (L := fun k i => r43_Final.l0 k s (mr i (finF s)) (i : Int) nm ps ts) (n := ps.length) (fun i hi h => ?_) (Ev.one fun k => by simp only [r43_Final.l0]; rw [if_neg (by omega)])
   have hlen : (mr i (finF s)).length < 1000000 := by rw [mr_len]; omega
   rw [mr_snoc] at h
   refine Ev.step (fun k => ?_) h
   simp only [r43_Final.l0]
   rw [if_pos (by omega)]
   by_cases e : (i : Int) = s
   · have o : finF s i = 1 := if_pos e
     rw [if_pos e, if_pos (by omega), wrap_up hi (by omega), o]
   · have o : finF s i = 0 := if_neg e
     rw [if_neg e, if_pos (by omega), wrap_up hi (by omega), o]
 · rw [if_neg c]
   exact Ev.congr (fun k => if_neg c) (Ev.some _)
theorem prepP_at (s : Int) {i : Nat} (hi : i < ps.length) : (prepP s ps).getD i zP = prP s ps i := mr_get _ _ hi
theorem map_at {α : Type} (l : List α) (f : α → ByteArray) (z : α) {i : Nat} (hi : i < l.length) : (l.map f).getD i ByteArray.empty = f (l.getD i z) := by
 rw [List.getD_eq_getElem?_getD, List.getElem?_map, List.getD_eq_getElem?_getD, List.getElem?_eq_getElem hi]; rfl
theorem prepP_names (s : Int) : (prepP s ps).map (·.f0) = ps.map (·.f0) := by
 refine ext_getD ByteArray.empty (by rw [List.length_map, List.length_map, prepP_len]) fun i hi => ?_
 rw [List.length_map, prepP_len] at hi
 rw [map_at _ _ zP (by rw [prepP_len]; exact hi), map_at _ _ zP hi, prepP_at s hi]; rfl
theorem prepT_at {i : Nat} (hi : i < ts.length) : (prepT ts).getD i zT = prT (ts.getD i zT) := by
 unfold prepT
 rw [List.getD_eq_getElem?_getD, List.getElem?_map, List.getD_eq_getElem?_getD, List.getElem?_eq_getElem hi]; rfl
theorem prepT_names : (prepT ts).map (·.f0) = ts.map (·.f0) := by unfold prepT; rw [List.map_map]; rfl
/-- The prepared net of a valid net is valid. -/
theorem prep_valid (V : ValidN nm ps ts) (s : Int) : ValidN nm (prepP s ps) (prepT ts) := by
 refine ⟨V.n, by rw [prepP_len]; exact V.p0, by rw [prepP_len]; exact V.p, by rw [prepT_len]; exact V.t, fun i hi => ?_, fun i hi => ?_⟩
 · rw [prepP_len] at hi
   have h := (V.plName hi).1
   have e : plR (prepP s ps) i = 0 := by
     unfold plR
     rw [prepP_at s hi, List.map_take, prepP_names, ← List.map_take]
     show (if nmE ((ps.take i).map (·.f0)) (ps.getD i zP).f0 ≠ 0 then _ else _) = 0
     rw [if_neg (by simpa using h)]
     have z0 : placeE 0 0 = 0 := by decide
     have z1 : placeE 1 0 = 0 := by decide
     show placeE (if (i : Int) = s then 1 else 0) 0 = 0
     by_cases q : (i : Int) = s
     · rw [if_pos q]; exact z1
     · rw [if_neg q]; exact z0
   exact e
 · rw [prepT_len] at hi
   obtain ⟨h, _⟩ := V.trName hi
   obtain ⟨_, h1, h2, _⟩ := V.arcs hi
   unfold trR
   rw [prepT_at hi, List.map_take, prepT_names, ← List.map_take, prepP_names, prepP_len]
   show (if nmE (ps.map (·.f0) ++ (ts.take i).map (·.f0)) (ts.getD i zT).f0 ≠ 0 then _ else transE (ps.length : Int) (prT (ts.getD i zT))) = 0
   rw [if_neg (by simpa using h)]
   unfold transE prT
   rw [if_neg (show ¬ ((0 : Int) < 0 ∨ (0 : Int) > 9) by omega)]
   show (if arcsE (ps.length : Int) (ts.getD i zT).f1 ≠ 0 then _ else if arcsE (ps.length : Int) (ts.getD i zT).f2 ≠ 0 then _ else arcsE (ps.length : Int) []) = 0
   rw [if_neg (by simpa using h1), if_neg (by simpa using h2)]
   rfl
theorem prep_thin (hT : Thin ts) : Thin (prepT ts) := fun t ht => by
 obtain ⟨u, hu, rfl⟩ := List.mem_map.1 ht
 have h := hT u hu
 exact ⟨h.1, h.2.1, h.2.2.1, Nat.zero_le _⟩
theorem prep_trans (v : Bool) (n : ByteArray) : transS v (prepT ts) n = transS v ts n := by
 unfold transS
 rw [prepT_len]
 congr 1
 exact first_congr fun j hj => by rw [prepT_at hj]; rfl
theorem prep_place (v : Bool) (s : Int) (n : ByteArray) : placeS v (prepP s ps) n = placeS v ps n := by
 unfold placeS
 rw [prepP_len]
 congr 1
 exact first_congr fun j hj => by rw [prepP_at s hj]; rfl
theorem close_ev (hp : ps.length ≤ 100000) (ht : ts.length ≤ 100000) (hT : Thin ts) : Ev (fun k => workflow_Close.f k nm ps ts) (closeS nm ps ts) := by
 unfold workflow_Close.f closeS
 refine Ev.bind (prepare_ev hp ht hT) ?_
 rw [may_prep]
 by_cases c : mayS nm ps ts = 0
 · rw [if_pos c]
   refine Ev.congr (fun k => if_pos c) ?_
   obtain ⟨v, _, a, b, ha, hb, hab, e1, e2, _⟩ := may_ends c
   rw [(prepS_zero c).1, v, e1]
   simp only
   by_cases d : ts.length ≥ 24
   · rw [if_pos d]
     exact Ev.congr (fun k => if_pos (by rw [prepT_len]; omega)) (Ev.some _)
   · rw [if_neg d]
     refine Ev.congr (fun k => if_neg (by rw [prepT_len]; omega)) ?_
     have V := prep_valid (validS_iff.1 v) (a : Int)
     have hv := validS_iff.2 V
     refine Ev.bind (trans_ev nm closeN (by rw [prepT_len]; omega) (prep_thin hT)) ?_
     rw [hv, prep_trans]
     have yes : Ev (fun k => workflow_Close.j0 k true nm ps ts nm (prepP (a : Int) ps) (prepT ts)) (⟨#[]⟩, [], [], 6) := Ev.one fun k => by simp only [workflow_Close.j0]; rfl
     by_cases q : transS true ts closeN ≥ 0
     · rw [if_pos (Or.inl q)]
       exact Ev.congr (fun k => if_pos q) yes
     · refine Ev.congr (fun k => if_neg q) ?_
       refine Ev.bind (place_ev nm closeN (by rw [prepP_len]; omega) (prep_thin hT)) ?_
       rw [hv, prep_place]
       by_cases q2 : placeS true ps closeN ≥ 0
       · rw [if_pos (Or.inr q2), decide_eq_true q2]
         exact yes
       · rw [if_neg (fun h => h.elim q q2), decide_eq_false q2, e2]
         have last : Ev (fun k => (workflow_Source.f k nm ps ts).bind fun bt281 => ((workflow_Sink.f k nm ps ts).bind fun bt283 => (if (prepT ts).length < 1466015503701 then (some (nm, prepP (a : Int) ps, (prepT ts ++ [(⟨closeN, [(⟨bt283.1, 1⟩ : Ac)], [(⟨bt281.1, 1⟩ : Ac)], [], 0⟩ : Tra)]), (0 : Int))) else none))) (nm, prepP (a : Int) ps, prepT ts ++ [closeT (a : Int) (b : Int)], 0) := by
           refine Ev.bind (onlyProducers_ev (by omega) (by omega) hT) (Ev.bind (onlyConsumers_ev (by omega) (by omega) hT) ?_)
           rw [v, e1, e2]
           exact Ev.congr (fun k => if_pos (by rw [prepT_len]; omega)) (Ev.some _)
         exact Ev.step (fun k => by simp only [workflow_Close.j0]; rfl) last
 · rw [if_neg c]
   exact Ev.congr (fun k => if_neg c) (Ev.some _)
theorem refclose_ev (hp : ps.length ≤ 100000) (ht : ts.length ≤ 100000) (hT : Thin ts) : Ev (fun k => r43_Close.f k nm ps ts) (closeS nm ps ts) := by
 unfold r43_Close.f closeS
 refine Ev.bind (refprepare_ev hp ht hT) ?_
 rw [may_prep]
 by_cases c : mayS nm ps ts = 0
 · rw [if_pos c]
   refine Ev.congr (fun k => if_pos c) ?_
   obtain ⟨v, _, a, b, ha, hb, hab, e1, e2, _⟩ := may_ends c
   rw [(prepS_zero c).1, v, e1]
   simp only
   by_cases d : ts.length ≥ 24
   · rw [if_pos d]
     exact Ev.congr (fun k => if_pos (by omega)) (Ev.some _)
   · rw [if_neg d]
     refine Ev.congr (fun k => if_neg (by omega)) ?_
     refine Ev.bind (refplaceat_ev nm closeN (by omega) hT) ?_
     rw [v]
     have yes : Ev (fun k => r43_Close.j0 k true nm ps ts nm (prepP (a : Int) ps) (prepT ts)) (⟨#[]⟩, [], [], 6) := Ev.one fun k => by simp only [r43_Close.j0]; rfl
     by_cases q2 : placeS true ps closeN ≥ 0
     · rw [if_pos (Or.inr q2)]
       exact Ev.congr (fun k => if_pos q2) yes
     · refine Ev.congr (fun k => if_neg q2) ?_
       refine Ev.bind (reftransat_ev nm closeN (by omega) hT) ?_
       rw [v]
       by_cases q : transS true ts closeN ≥ 0
       · rw [if_pos (Or.inl q), decide_eq_true q]
         exact yes
       · rw [if_neg (fun h => h.elim q q2), decide_eq_false q, e2]
         have last : Ev (fun k => (r43_Source.f k nm ps ts).bind fun bt281 => ((r43_Sink.f k nm ps ts).bind fun bt283 => (if (prepT ts).length < 1466015503701 then (some (nm, prepP (a : Int) ps, (prepT ts ++ [(⟨closeN, [(⟨bt283.1, 1⟩ : Ac)], [(⟨bt281.1, 1⟩ : Ac)], [], 0⟩ : Tra)]), (0 : Int))) else none))) (nm, prepP (a : Int) ps, prepT ts ++ [closeT (a : Int) (b : Int)], 0) := by
           refine Ev.bind (refsource_ev (by omega) (by omega) hT) (Ev.bind (refsink_ev (by omega) (by omega) hT) ?_)
           rw [v, e1, e2]
           exact Ev.congr (fun k => if_pos (by rw [prepT_len]; omega)) (Ev.some _)
         exact Ev.step (fun k => by simp only [r43_Close.j0]; rfl) last
 · rw [if_neg c]
   exact Ev.congr (fun k => if_neg c) (Ev.some _)
end
end Go.Proofs.Ytnoebjmhimehcaa.Pl
/- What the reference's comparison of nets answers. -/
namespace Go.Proofs.Ytnoebjmhimehcaa.Pl
open Go.RowKit Go.Proofs.Ytnoebjmhimehcaa.P Go.Proofs.YtnoebjmhimehcaaW.PrintWords Go.Proofs.YtnoebjmhimehcaaW.PrintMore

theorem refsameArcs_ev (a b : List Ac) (ha : a.length ≤ 1000000) : Ev (fun k => r09_SameArcs.f k a b) (sameArcsS a b) := by
 unfold r09_SameArcs.f sameArcsS
 by_cases hl : (a.length : Int) = (b.length : Int)
 · simp only [hl, if_true]
   have h := Ev_loop (L := fun k i => r09_SameArcs.l0 k a b (i : Int)) (n := a.length) 1 (fun i => if neA (a.getD i zA) (b.getD i zA) = true then some false else none) (e := true) (fun k i hi => by
     simp only [r09_SameArcs.l0]
     rw [if_pos (by omega), if_pos (by omega), if_pos (by omega), rdA, rdA, wrap_up hi (by omega)]
     by_cases c : neA (a.getD i zA) (b.getD i zA) = true
     · rw [if_pos c]; unfold neA at c; rw [if_pos c]; rfl
     · rw [if_neg c]; unfold neA at c; rw [if_neg c]; rfl) (Ev.one (fun k => by simp only [r09_SameArcs.l0]; rw [if_neg (by omega)]))
   exact h
 · simp only [hl, if_false]; exact Ev.some _
theorem refequal_ev (nm : ByteArray) {ps : List Pla} {ts : List Tra} (nm' : ByteArray) {ps' : List Pla} {ts' : List Tra} (hp : ps.length ≤ 1000000) (ht : ts.length ≤ 1000000) (hT : Thin ts) :
   Ev (fun k => r09_Equal.f k nm ps ts nm' ps' ts') (equalS nm ps ts nm' ps' ts') := by
 have e0 : ∀ k, r09_Equal.f k nm ps ts nm' ps' ts' = r09_Equal.j0 k (!((nm.toList == nm'.toList) && decide ((ps.length : Int) = (ps'.length : Int)) && decide ((ts.length : Int) = (ts'.length : Int)))) nm ps ts nm' ps' ts' := fun k => by
   unfold r09_Equal.f
   by_cases c0 : nm.toList = nm'.toList
   · rw [if_pos c0, beq_iff_eq.2 c0]
     by_cases c1 : (ps.length : Int) = (ps'.length : Int)
     · rw [if_pos c1, decide_eq_true c1]
       by_cases c2 : (ts.length : Int) = (ts'.length : Int)
       · rw [decide_eq_true c2, bne_eq_false_iff_eq.2 c2]; rfl
       · rw [decide_eq_false c2, bne_iff_ne.2 c2]; rfl
     · rw [if_neg c1, decide_eq_false c1]; rfl
   · rw [if_neg c0, beq_eq_false_iff_ne.2 c0]; rfl
 refine Ev.congr e0 ?_
 unfold equalS
 have no : Ev (fun k => r09_Equal.j0 k true nm ps ts nm' ps' ts') false := Ev.one (fun k => by simp only [r09_Equal.j0, ↓reduceIte])
 by_cases c0 : (nm.toList == nm'.toList) = true
 · by_cases c1 : (ps.length : Int) = (ps'.length : Int)
   · by_cases c2 : (ts.length : Int) = (ts'.length : Int)
     · rw [if_pos c0, if_pos c1, if_pos c2, c0, decide_eq_true c1, decide_eq_true c2]
       refine Ev.step (f := fun k => r09_Equal.l0 k ((0 : Nat) : Int) nm ps ts nm' ps' ts') (fun k => by simp only [r09_Equal.j0]; rfl) ?_
       have h1 := Ev_first (L := fun k i => r09_Equal.l1 k (i : Int) nm ps ts nm' ps' ts') (n := ts.length) (fun i => if (!eqT (ts.getD i zT) (ts'.getD i zT)) = true then some false else none) (e := true)
         (fun i hi hb r hr => by
           have hth := hT.at hi
           have ht : eqT (ts.getD i zT) (ts'.getD i zT) = true := by
             cases he : eqT (ts.getD i zT) (ts'.getD i zT) with
             | true => rfl
             | false => rw [he] at hb; cases hb
           refine Ev.stepn 1 (f := fun k => if (ts.getD i zT).f0.toList = (ts'.getD i zT).f0.toList then (if (ts.getD i zT).f4 = (ts'.getD i zT).f4 then ((r09_SameArcs.f k (ts.getD i zT).f1 (ts'.getD i zT).f1).bind fun a => if a = true then ((r09_SameArcs.f k (ts.getD i zT).f2 (ts'.getD i zT).f2).bind fun b => if b = true then ((r09_SameArcs.f k (ts.getD i zT).f3 (ts'.getD i zT).f3).bind fun c => if c = true then r09_Equal.l1 k ((i + 1 : Nat) : Int) nm ps ts nm' ps' ts' else some false) else some false) else some false) else some false) else some false) (fun k => by
             simp only [r09_Equal.l1]
             rw [if_pos (by omega), if_pos (by omega), if_pos (by omega), rdT, rdT, wrap_up hi (by omega)]) ?_
           have hx := eqT_true.1 ht
           rw [← hx]
           generalize ts.getD i zT = x at hth
           simp only [↓reduceIte]
           refine Ev.bind (refsameArcs_ev _ _ hth.2.1) ?_
           rw [sameArcsS_iff.2 rfl]
           simp only [↓reduceIte]
           refine Ev.bind (refsameArcs_ev _ _ hth.2.2.1) ?_
           rw [sameArcsS_iff.2 rfl]
           simp only [↓reduceIte]
           refine Ev.bind (refsameArcs_ev _ _ hth.2.2.2) ?_
           rw [sameArcsS_iff.2 rfl]
           simp only [↓reduceIte]
           exact hr)
         (fun i r hi hb => by
           have hth := hT.at hi
           cases he : eqT (ts.getD i zT) (ts'.getD i zT) with
           | true => rw [he] at hb; cases hb
           | false =>
           rw [he] at hb
           obtain rfl := Option.some.inj hb
           refine Ev.stepn 1 (f := fun k => if (ts.getD i zT).f0.toList = (ts'.getD i zT).f0.toList then (if (ts.getD i zT).f4 = (ts'.getD i zT).f4 then ((r09_SameArcs.f k (ts.getD i zT).f1 (ts'.getD i zT).f1).bind fun a => if a = true then ((r09_SameArcs.f k (ts.getD i zT).f2 (ts'.getD i zT).f2).bind fun b => if b = true then ((r09_SameArcs.f k (ts.getD i zT).f3 (ts'.getD i zT).f3).bind fun c => if c = true then r09_Equal.l1 k ((i + 1 : Nat) : Int) nm ps ts nm' ps' ts' else some false) else some false) else some false) else some false) else some false) (fun k => by
             simp only [r09_Equal.l1]
             rw [if_pos (by omega), if_pos (by omega), if_pos (by omega), rdT, rdT, wrap_up hi (by omega)]) ?_
           generalize ts.getD i zT = x at hth he
           generalize ts'.getD i zT = y at he
           unfold eqT at he
           by_cases d0 : x.f0.toList = y.f0.toList
           · rw [if_pos (beq_iff_eq.2 d0)] at he
             by_cases d4 : x.f4 = y.f4
             · rw [if_pos (beq_iff_eq.2 d4)] at he
               simp only [d0, d4, ↓reduceIte]
               refine Ev.bind (refsameArcs_ev _ _ hth.2.1) ?_
               by_cases d1 : sameArcsS x.f1 y.f1 = true
               · rw [if_pos d1] at he
                 simp only [d1, ↓reduceIte]
                 refine Ev.bind (refsameArcs_ev _ _ hth.2.2.1) ?_
                 by_cases d2 : sameArcsS x.f2 y.f2 = true
                 · rw [if_pos d2] at he
                   simp only [d2, ↓reduceIte]
                   refine Ev.bind (refsameArcs_ev _ _ hth.2.2.2) ?_
                   simp only [he, Bool.false_eq_true, ↓reduceIte]
                   exact Ev.some _
                 · simp only [d2]; exact Ev.some _
               · simp only [d1]; exact Ev.some _
             · simp only [d0, d4, ↓reduceIte]; exact Ev.some _
           · simp only [d0, ↓reduceIte]; exact Ev.some _)
         (Ev.one (fun k => by simp only [r09_Equal.l1]; rw [if_neg (by omega)]))
       exact Ev_loop (L := fun k i => r09_Equal.l0 k (i : Int) nm ps ts nm' ps' ts') (n := ps.length) 1 (fun i => if neP (ps.getD i zP) (ps'.getD i zP) = true then some false else none) (e := first (fun i => if (!eqT (ts.getD i zT) (ts'.getD i zT)) = true then some false else none) true ts.length)
         (fun k i hi => by
           simp only [r09_Equal.l0]
           rw [if_pos (by omega), if_pos (by omega), if_pos (by omega), rdP, rdP, wrap_up hi (by omega)]
           by_cases c : neP (ps.getD i zP) (ps'.getD i zP) = true
           · rw [if_pos c]; unfold neP at c; rw [if_pos c]; rfl
           · rw [if_neg c]; unfold neP at c; rw [if_neg c]; rfl)
         (Ev.step (f := fun k => r09_Equal.l1 k ((0 : Nat) : Int) nm ps ts nm' ps' ts') (fun k => by simp only [r09_Equal.l0]; rw [if_neg (by omega)]; rfl) h1)
     · rw [if_pos c0, if_pos c1, if_neg c2, decide_eq_false c2, Bool.and_false]
       exact no
   · rw [if_pos c0, if_neg c1, decide_eq_false c1, Bool.and_false, Bool.false_and]
     exact no
 · rw [if_neg c0, Bool.eq_false_iff.2 c0, Bool.false_and, Bool.false_and]
   exact no
end Go.Proofs.Ytnoebjmhimehcaa.Pl
/- The reference's comparisons of lists: equal lists are told equal. -/
namespace Go.Proofs.Ytnoebjmhimehcaa.Pl
open Go.RowKit Go.Proofs.Ytnoebjmhimehcaa.P Go.Proofs.YtnoebjmhimehcaaW.PrintWords Go.Proofs.YtnoebjmhimehcaaW.PrintMore
theorem ints_refl (a : List Int) (ha : a.length ≤ 1000000000) : Ev (fun k => r09_Ints.f k a a) true := by
 unfold r09_Ints.f
 simp only [↓reduceIte]
 exact Ev_up (L := fun k i => r09_Ints.l0 k a a (i : Int)) (n := a.length) (fun i hi hr => Ev.step (fun k => by
   simp only [r09_Ints.l0]
   rw [if_pos (by omega), if_pos (by omega), if_pos (by omega), if_pos trivial, wrap_up hi (by omega)]) hr) (Ev.one (fun k => by simp only [r09_Ints.l0]; rw [if_neg (by omega)]))
end Go.Proofs.Ytnoebjmhimehcaa.Pl
namespace Go.Proofs.Ytnoebjmhimehcaa.Pure
open Go.RowKit Go.Proofs.Ytnoebjmhimehcaa.P Go.Proofs.Ytnoebjmhimehcaa.Pl Go.Proofs.YtnoebjmhimehcaaW.PrintWords
theorem prep_few {nm : ByteArray} {ps : List Pla} {ts : List Tra} (hT : Thin ts) : (prepS nm ps ts).2.1.length ≤ ps.length ∧ (prepS nm ps ts).2.2.1.length ≤ ts.length ∧ Thin (prepS nm ps ts).2.2.1 := by
 by_cases c : mayS nm ps ts = 0
 · rw [(prepS_zero c).1]; exact ⟨by rw [prepP_len]; omega, by rw [prepT_len]; omega, prep_thin hT⟩
 · rw [prepS_else c]; exact ⟨Nat.zero_le _, Nat.zero_le _, fun t ht => by cases ht⟩
theorem close_few {nm : ByteArray} {ps : List Pla} {ts : List Tra} (hT : Thin ts) : (closeS nm ps ts).2.1.length ≤ ps.length ∧ (closeS nm ps ts).2.2.1.length ≤ ts.length + 1 ∧ Thin (closeS nm ps ts).2.2.1 := by
 have none_ : Thin [] := fun t ht => by cases ht
 unfold closeS
 split
 · split
   · exact ⟨Nat.zero_le _, Nat.zero_le _, none_⟩
   · split
     · exact ⟨Nat.zero_le _, Nat.zero_le _, none_⟩
     · refine ⟨by rw [prepP_len]; omega, by rw [List.length_append, prepT_len]; simp, fun t ht => ?_⟩
       rcases List.mem_append.1 ht with h | h
       · exact prep_thin hT t h
       · rw [List.mem_singleton.1 h]; exact ⟨show closeN.size ≤ 1000000 by decide, show 1 ≤ 1000000 by decide, show 1 ≤ 1000000 by decide, Nat.zero_le _⟩
 · exact ⟨Nat.zero_le _, Nat.zero_le _, none_⟩
theorem fin_few {nm : ByteArray} {ps : List Pla} {ts : List Tra} : (finS nm ps ts).1.length ≤ ps.length := by
 unfold finS
 split
 · rw [mr_len]; omega
 · exact Nat.zero_le _
theorem WorkflowBuilds (nm : ByteArray) (ps : List Pla) (ts : List Tra) {w : Prop} (_h : w) : ∃ k, petrinetlaw43_WorkflowBuilds.f k nm ps ts = some true := by
 refine Ev.rounds (g := fun k => petrinetlaw43_WorkflowBuilds.f k nm ps ts) ?_
 unfold petrinetlaw43_WorkflowBuilds.f
 refine Ev.bind (small_ev nm ps ts) ?_
 cases hs : smallS nm ps ts with
 | false =>
   simp only [smallR, Bool.false_eq_true, ↓reduceIte]
   exact lives'
 | true =>
   have hS := smallS_true hs
   have hT := hS.thin
   have hp := hS.p
   have ht := hS.t
   simp only [smallR, ↓reduceIte]
   obtain ⟨p1, p2, p3⟩ := prep_few (nm := nm) (ps := ps) hT
   obtain ⟨c1, c2, c3⟩ := close_few (nm := nm) (ps := ps) hT
   have f1 := fin_few (nm := nm) (ps := ps) (ts := ts)
   refine Ev.bind (prepare_ev (by omega) (by omega) hT) (Ev.bind (refprepare_ev (by omega) (by omega) hT) ?_)
   refine Ev.bind (final_ev (by omega) (by omega) hT) (Ev.bind (reffinal_ev (by omega) (by omega) hT) ?_)
   refine Ev.bind (close_ev (by omega) (by omega) hT) (Ev.bind (refclose_ev (by omega) (by omega) hT) ?_)
   refine Ev.bind (refequal_ev _ _ (by omega) (by omega) p3) ?_
   rw [equalS_iff.2 ⟨rfl, rfl, rfl⟩]
   simp only [↓reduceIte]
   refine Ev.bind (ints_refl _ (by omega)) ?_
   simp only [↓reduceIte]
   refine Ev.bind (refequal_ev _ _ (by omega) (by omega) c3) ?_
   rw [equalS_iff.2 ⟨rfl, rfl, rfl⟩]
   simp only [↓reduceIte]
   exact lives'
end Go.Proofs.Ytnoebjmhimehcaa.Pure
