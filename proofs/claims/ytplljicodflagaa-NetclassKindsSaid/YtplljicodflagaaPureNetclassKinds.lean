/- The plain law of NetclassKinds: for every net the law's function answers true, with rounds enough. -/
-- MERGED: the plain texts that it needs, in one
import Derived.Test.YtplljicodflagaaPx13
import Derived.Test.YtplljicodflagaaPx4
import Derived.Test.YtplljicodflagaaVAll
import Derived.Test.YtplljicodflagaaPx1
import Derived.Test.YtplljicodflagaaPx2
import Derived.Test.YtplljicodflagaaPx3
import Derived.Test.YtplljicodflagaaPx12
import Derived.Laws.Strings
import Derived.WideShapes
import Derived.Test.YtplljicodflagaaPx8
import Derived.Test.YtplljicodflagaaPx6
/- Plain lemmas: loops that count, lists read and written by whole numbers. -/
namespace Go.Proofs.Ytplljicodflagaa.Pl
open Go.RowKit Go.Proofs.YtplljicodflagaaW.PrintWords Go.Proofs.YtplljicodflagaaW.PrintMore

theorem wrap_ok {x : Int} (h0 : -9223372036854775808 ≤ x) (h1 : x ≤ 9223372036854775807) : wrap64 x = x := by unfold wrap64; omega
theorem wrap_up {i n : Nat} (h : i < n) (hn : n ≤ 9223372036854775807) : wrap64 ((i : Int) + 1) = ((i + 1 : Nat) : Int) := by rw [wrap_ok (by omega) (by omega)]; omega

theorem Ev.some {α : Type} (r : α) : Ev (fun _ => Option.some r) r := ⟨0, fun _ _ => rfl⟩
theorem Ev.one {α : Type} {g : Nat → Option α} {r : α} (h : ∀ k, g (k + 1) = Option.some r) : Ev g r := Ev.step h (Ev.some r)




section
variable {α : Type}
theorem rd_nat (xs : List Int) (i : Nat) : rd xs (i : Int) = xs.getD i 0 := by simp [rd]
theorem rd_mem {xs : List Int} {i : Int} (h0 : 0 ≤ i) (h1 : i < xs.length) : rd xs i ∈ xs := by
  unfold rd
  rw [List.getD_eq_getElem?_getD, List.getElem?_eq_getElem (show i.toNat < xs.length by omega)]
  exact List.getElem_mem _
theorem mem_rd {xs : List Int} {x : Int} (h : x ∈ xs) : ∃ i : Nat, i < xs.length ∧ rd xs (i : Int) = x := by
  obtain ⟨i, hi, he⟩ := List.getElem_of_mem h
  exact ⟨i, hi, by rw [rd_nat, List.getD_eq_getElem?_getD, List.getElem?_eq_getElem hi]; exact he⟩
end
end Go.Proofs.Ytplljicodflagaa.Pl
/- Plain lemmas: loops that count through a list, the first place that ends them. -/
namespace Go.Proofs.Ytplljicodflagaa.Pl
open Go.RowKit Go.Proofs.YtplljicodflagaaW.PrintWords Go.Proofs.YtplljicodflagaaW.PrintMore

/-- The first answer of p from place i on, through d places; e if there is none. -/
def firstOr {ρ : Type} (p : Nat → Option ρ) (e : ρ) : Nat → Nat → ρ
  | _, 0 => e
  | i, d + 1 => match p i with | some r => r | none => firstOr p e (i + 1) d
theorem firstOr_cases {ρ : Type} (p : Nat → Option ρ) (e : ρ) : ∀ (d i : Nat), (firstOr p e i d = e ∧ ∀ j, i ≤ j → j < i + d → p j = none) ∨ ∃ j, i ≤ j ∧ j < i + d ∧ p j = some (firstOr p e i d) ∧ ∀ m, i ≤ m → m < j → p m = none
  | 0, i => .inl ⟨rfl, fun j h1 h2 => by omega⟩
  | d + 1, i => by
    unfold firstOr
    cases h : p i with
    | some r => exact .inr ⟨i, Nat.le_refl _, by omega, h, fun m h1 h2 => by omega⟩
    | none =>
      rcases firstOr_cases p e d (i + 1) with ⟨h1, h2⟩ | ⟨j, h1, h2, h3, h4⟩
      · refine .inl ⟨h1, fun j j1 j2 => ?_⟩
        by_cases hj : j = i
        · rw [hj]; exact h
        · exact h2 j (by omega) (by omega)
      · refine .inr ⟨j, by omega, by omega, h3, fun m m1 m2 => ?_⟩
        by_cases hm : m = i
        · rw [hm]; exact h
        · exact h4 m (by omega) m2
theorem firstOr_all {ρ : Type} {p : Nat → Option ρ} {e : ρ} : ∀ {d i : Nat}, (∀ j, i ≤ j → j < i + d → p j = none) → firstOr p e i d = e
  | 0, _, _ => rfl
  | d + 1, i, h => by
    unfold firstOr
    rw [h i (Nat.le_refl _) (by omega)]
    exact firstOr_all (fun j h1 h2 => h j (by omega) (by omega))
theorem firstOr_at {ρ : Type} {p : Nat → Option ρ} {e r : ρ} : ∀ {d i : Nat} (j : Nat), i ≤ j → j < i + d → p j = some r → (∀ m, i ≤ m → m < j → p m = none) → firstOr p e i d = r
  | 0, _, _, h1, h2, _, _ => by omega
  | d + 1, i, j, h1, h2, h3, h4 => by
    unfold firstOr
    by_cases hj : j = i
    · subst hj; rw [h3]
    · rw [h4 i (Nat.le_refl _) (by omega)]
      exact firstOr_at j (by omega) (by omega) h3 (fun m m1 m2 => h4 m (by omega) m2)
/-- The first answer of p below n; e if there is none. -/
def first {ρ : Type} (p : Nat → Option ρ) (e : ρ) (n : Nat) : ρ := firstOr p e 0 n
theorem first_cases {ρ : Type} (p : Nat → Option ρ) (e : ρ) (n : Nat) : (first p e n = e ∧ ∀ j, j < n → p j = none) ∨ ∃ j, j < n ∧ p j = some (first p e n) ∧ ∀ m, m < j → p m = none := by
  rcases firstOr_cases p e n 0 with ⟨h1, h2⟩ | ⟨j, _, h2, h3, h4⟩
  · exact .inl ⟨h1, fun j h => h2 j (Nat.zero_le _) (by omega)⟩
  · exact .inr ⟨j, by omega, h3, fun m h => h4 m (Nat.zero_le _) h⟩
theorem first_all {ρ : Type} {p : Nat → Option ρ} {e : ρ} {n : Nat} (h : ∀ j, j < n → p j = none) : first p e n = e := firstOr_all (fun j _ h2 => h j (by omega))
theorem first_at {ρ : Type} {p : Nat → Option ρ} {e r : ρ} {n : Nat} (j : Nat) (h2 : j < n) (h3 : p j = some r) (h4 : ∀ m, m < j → p m = none) : first p e n = r := firstOr_at j (Nat.zero_le _) (by omega) h3 (fun m _ h => h4 m h)

/-- A loop that counts up to n and ends where p answers. -/
theorem Ev_firstFrom {ρ : Type} {L : Nat → Nat → Option ρ} {n : Nat} (p : Nat → Option ρ) {e : ρ}
    (go : ∀ i, i < n → p i = none → ∀ r, Ev (fun k => L k (i + 1)) r → Ev (fun k => L k i) r)
    (stop : ∀ i r, i < n → p i = some r → Ev (fun k => L k i) r) (fin : (∀ j, j < n → p j = none) → Ev (fun k => L k n) e) :
    ∀ (d i : Nat), i + d = n → (∀ j, j < i → p j = none) → Ev (fun k => L k i) (firstOr p e i d) := by
  intro d
  induction d with
  | zero => intro i hi hb; obtain rfl : i = n := by omega
            exact fin hb
  | succ d ih =>
    intro i hi hb
    unfold firstOr
    cases h : p i with
    | some r => exact stop i r (by omega) h
    | none => exact go i (by omega) h _ (ih (i + 1) (by omega) (fun j hj => by
        by_cases e : j = i
        · rw [e]; exact h
        · exact hb j (by omega)))
theorem Ev_first' {ρ : Type} {L : Nat → Nat → Option ρ} {n : Nat} (p : Nat → Option ρ) {e : ρ}
    (go : ∀ i, i < n → p i = none → ∀ r, Ev (fun k => L k (i + 1)) r → Ev (fun k => L k i) r)
    (stop : ∀ i r, i < n → p i = some r → Ev (fun k => L k i) r) (fin : (∀ j, j < n → p j = none) → Ev (fun k => L k n) e) : Ev (fun k => L k 0) (first p e n) :=
  Ev_firstFrom p go stop fin n 0 (by omega) (fun j h => by omega)
theorem Ev_first {ρ : Type} {L : Nat → Nat → Option ρ} {n : Nat} (p : Nat → Option ρ) {e : ρ}
    (go : ∀ i, i < n → p i = none → ∀ r, Ev (fun k => L k (i + 1)) r → Ev (fun k => L k i) r)
    (stop : ∀ i r, i < n → p i = some r → Ev (fun k => L k i) r) (fin : Ev (fun k => L k n) e) : Ev (fun k => L k 0) (first p e n) :=
  Ev_first' p go stop (fun _ => fin)
/-- A loop that counts up to n. -/
theorem Ev_up {ρ : Type} {L : Nat → Nat → Option ρ} {n : Nat} {r : ρ}
    (go : ∀ i, i < n → Ev (fun k => L k (i + 1)) r → Ev (fun k => L k i) r) (fin : Ev (fun k => L k n) r) : Ev (fun k => L k 0) r := by
  have h : ∀ d i, i + d = n → Ev (fun k => L k i) r := by
    intro d
    induction d with
    | zero => intro i hi; obtain rfl : i = n := by omega
              exact fin
    | succ d ih => intro i hi; exact go i (by omega) (ih (i + 1) (by omega))
  exact h n 0 (by omega)

theorem take_map_succ {α β : Type} (l : List α) (f : α → β) (z : α) {i : Nat} (h : i < l.length) : (l.take (i + 1)).map f = (l.take i).map f ++ [f (l.getD i z)] := by
  rw [List.take_succ_eq_append_getElem h, List.map_append, List.getD_eq_getElem?_getD, List.getElem?_eq_getElem h]
  rfl
theorem getD_mem {α : Type} (l : List α) (z : α) {i : Nat} (h : i < l.length) : l.getD i z ∈ l := by
  rw [List.getD_eq_getElem?_getD, List.getElem?_eq_getElem h]
  exact List.getElem_mem h
theorem filter_range_succ (q : Nat → Bool) (i : Nat) : (List.range (i + 1)).filter q = if q i = true then (List.range i).filter q ++ [i] else (List.range i).filter q := by
  rw [List.range_succ, List.filter_append]
  by_cases h : q i = true
  · rw [if_pos h, List.filter_cons_of_pos h]; rfl
  · rw [if_neg h, List.filter_cons_of_neg h]; simp
theorem Ev.stepn {α : Type} {g f : Nat → Option α} {r : α} (m : Nat) (h : ∀ k, g (k + m) = f k) (hf : Ev f r) : Ev g r := by
  obtain ⟨K, hK⟩ := hf
  exact ⟨K + m, fun k hk => by obtain ⟨d, rfl⟩ : ∃ d, k = d + m := ⟨k - m, by omega⟩; rw [h]; exact hK d (by omega)⟩
theorem ite_or {α : Type} (c1 c2 : Prop) [Decidable c1] [Decidable c2] (g : Bool → α) : (if c1 then g true else g (decide c2)) = g (decide (c1 ∨ c2)) := by
  by_cases h : c1
  · rw [if_pos h, decide_eq_true (Or.inl h)]
  · rw [if_neg h]; congr 1; simp [h]
theorem ite_or2 {α : Type} (c1 c2 : Prop) [Decidable c1] [Decidable c2] (a b : α) : (if c1 then a else if c2 then a else b) = if c1 ∨ c2 then a else b := by
  by_cases h : c1
  · rw [if_pos h, if_pos (Or.inl h)]
  · by_cases h2 : c2
    · rw [if_neg h, if_pos h2, if_pos (Or.inr h2)]
    · rw [if_neg h, if_neg h2, if_neg (fun h3 => h3.elim h h2)]
theorem of_ite_none {α : Type} {c : Prop} [Decidable c] {a : α} (h : (if c then none else some a) = none) : c := Classical.byContradiction fun hn => by rw [if_neg hn] at h; cases h
theorem of_ite_some {α : Type} {c : Prop} [Decidable c] {a r : α} (h : (if c then none else some a) = some r) : ¬ c ∧ a = r := by
  by_cases hc : c
  · rw [if_pos hc] at h; cases h
  · rw [if_neg hc] at h; exact ⟨hc, Option.some.inj h⟩
/-- What a round answers: an end, or what follows. -/
def stepO {ρ : Type} (a : Option ρ) (b : Option ρ) : Option ρ := match a with | some r => some r | none => b
/-- A loop whose round is one equation. -/
theorem Ev_loop {ρ : Type} {L : Nat → Nat → Option ρ} {n : Nat} (m : Nat) (p : Nat → Option ρ) {e : ρ}
    (step : ∀ k i, i < n → L (k + m) i = stepO (p i) (L k (i + 1))) (fin : Ev (fun k => L k n) e) : Ev (fun k => L k 0) (first p e n) :=
  Ev_first p (fun i hi hp r hr => Ev.stepn m (fun k => by rw [step k i hi, hp]; rfl) hr) (fun i r hi hp => Ev.stepn m (f := fun _ => some r) (fun k => by rw [step k i hi, hp]; rfl) (Ev.some r)) fin
theorem first_any {ρ : Type} (c : Nat → Prop) [DecidablePred c] (a e : ρ) (n : Nat) : first (fun j => if c j then some a else none) e n = if ∃ j, j < n ∧ c j then a else e := by
  rcases first_cases (fun j => if c j then some a else none) e n with ⟨h1, h2⟩ | ⟨j, h1, h2, h3⟩
  · rw [h1, if_neg]
    rintro ⟨j, hj, hc⟩
    have := h2 j hj
    simp [hc] at this
  · have hc : c j := by
      refine Classical.byContradiction fun hn => ?_
      simp [hn] at h2
    rw [if_pos ⟨j, h1, hc⟩]
    simp [hc] at h2
    exact h2.symm
theorem any_take {α β : Type} (l : List α) (f : α → β) (q : β → Bool) (z : α) {i : Nat} (hi : i ≤ l.length) : ((l.take i).map f).any q = true ↔ ∃ j, j < i ∧ q (f (l.getD j z)) = true := by
  rw [List.any_eq_true]
  constructor
  · rintro ⟨x, hx, hq⟩
    obtain ⟨y, hy, rfl⟩ := List.mem_map.1 hx
    obtain ⟨j, hj, rfl⟩ := List.getElem_of_mem hy
    rw [List.length_take] at hj
    refine ⟨j, by omega, ?_⟩
    rw [List.getElem_take] at hq
    rw [List.getD_eq_getElem?_getD, List.getElem?_eq_getElem (by omega)]
    exact hq
  · rintro ⟨j, hj, hq⟩
    refine ⟨f (l.getD j z), List.mem_map.2 ⟨l.getD j z, ?_, rfl⟩, hq⟩
    rw [List.getD_eq_getElem?_getD, List.getElem?_eq_getElem (by omega)]
    exact List.mem_take_iff_getElem.2 ⟨j, by omega, rfl⟩
theorem any_all {α β : Type} (l : List α) (f : α → β) (q : β → Bool) (z : α) : (l.map f).any q = true ↔ ∃ j, j < l.length ∧ q (f (l.getD j z)) = true := by
  have := any_take l f q z (Nat.le_refl l.length)
  rwa [List.take_length] at this
end Go.Proofs.Ytplljicodflagaa.Pl
/- The check of fixed results of chapter 13. -/
namespace Go.Proofs.Ytplljicodflagaa.Pure
open Go.RowKit Go.Proofs.Ytplljicodflagaa.P Go.Proofs.Ytplljicodflagaa.Pl Go.Proofs.YtplljicodflagaaW.PrintWords
theorem alive : Ev (fun k => petrinetlaw13_alive.f k) true := Ev.of (fun k => petrinetlaw13_alive.mono k) (k := 60) (by decide +kernel)
theorem alive' : Ev (fun k => (petrinetlaw13_alive.f k).bind fun t => some t) true := Ev.bind alive (Ev.some _)
end Go.Proofs.Ytplljicodflagaa.Pure
/- What a net's check answers, told plainly; and that the program's check answers it. -/
namespace Go.Proofs.Ytplljicodflagaa.Pl
open Go.RowKit Go.Proofs.Ytplljicodflagaa.P Go.Proofs.YtplljicodflagaaW.PrintWords Go.Proofs.YtplljicodflagaaW.PrintMore

abbrev Pla := S46
abbrev Tra := S41
abbrev Ac := S43
abbrev zP : Pla := z46
abbrev zT : Tra := z41
abbrev zA : Ac := z43
theorem rdP (xs : List Pla) (i : Nat) : rd_T46 xs (i : Int) = xs.getD i zP := by simp [rd_T46]
theorem rdT (xs : List Tra) (i : Nat) : rd_T41 xs (i : Int) = xs.getD i zT := by simp [rd_T41]
theorem rdA (xs : List Ac) (i : Nat) : rd_T43 xs (i : Int) = xs.getD i zA := by simp [rd_T43]
theorem rdAs (xs : List (List Ac)) (i : Nat) : rd_L4 xs (i : Int) = xs.getD i [] := by simp [rd_L4]

/-! ### arcs -/
def arcE (np : Int) (l : List Ac) (i : Nat) : Option Int :=
  if (l.getD i zA).f0 < 0 ∨ (l.getD i zA).f0 ≥ np then some 7 else if 0 < i ∧ (l.getD (i - 1) zA).f0 ≥ (l.getD i zA).f0 then some 8 else if (l.getD i zA).f1 < 1 ∨ (l.getD i zA).f1 > 99 then some 9 else none
def arcsE (np : Int) (l : List Ac) : Int := first (arcE np l) 0 l.length
theorem checkArcs_step (k : Nat) (l : List Ac) (np : Int) (i : Nat) (hi : i < l.length) (hl : l.length ≤ 1000000) :
    net_checkArcs.l0 (k + 3) l np l (l.length : Int) (i : Int) = stepO (arcE np l i) (net_checkArcs.l0 k l np l (l.length : Int) ((i + 1 : Nat) : Int)) := by
  simp only [net_checkArcs.l0]
  rw [if_pos (by omega), if_pos (by omega), if_pos (by omega), rdA, ite_or _ _ (fun b => net_checkArcs.j1 (k + 2) l np (i : Int) l (l.length : Int) (i : Int) b (l.getD i zA).f0 (l.getD i zA).f1)]
  unfold arcE
  by_cases c1 : (l.getD i zA).f0 < 0 ∨ (l.getD i zA).f0 ≥ np
  · rw [decide_eq_true c1, if_pos c1]; simp only [net_checkArcs.j1, ↓reduceIte, stepO]
  · rw [decide_eq_false c1, if_neg c1]
    have e2 : ∀ b : Bool, net_checkArcs.j2 (k + 1) l np l (l.length : Int) (i : Int) b (l.getD i zA).f0 (l.getD i zA).f1 = if b = true then some 8 else if (l.getD i zA).f1 < 1 ∨ (l.getD i zA).f1 > 99 then some 9 else net_checkArcs.l0 k l np l (l.length : Int) ((i + 1 : Nat) : Int) := by
      intro b
      simp only [net_checkArcs.j2]
      rw [wrap_up hi (by omega), ite_or2]
    simp only [net_checkArcs.j1]
    rw [if_neg Bool.false_ne_true]
    by_cases c2 : 0 < i
    · rw [if_pos (by omega), if_pos (by rw [wrap_ok (by omega) (by omega)]; omega), if_pos (by rw [wrap_ok (by omega) (by omega)]; omega), wrap_ok (x := (i : Int) - 1) (by omega) (by omega), show ((i : Int) - 1) = ((i - 1 : Nat) : Int) by omega, rdA, e2]
      by_cases c3 : (l.getD (i - 1) zA).f0 ≥ (l.getD i zA).f0
      · rw [decide_eq_true c3, if_pos rfl, if_pos ⟨c2, c3⟩]; rfl
      · rw [decide_eq_false c3, if_neg Bool.false_ne_true, if_neg (show ¬ (0 < i ∧ (l.getD (i - 1) zA).f0 ≥ (l.getD i zA).f0) from fun h => c3 h.2)]
        by_cases d : (l.getD i zA).f1 < 1 ∨ (l.getD i zA).f1 > 99
        · rw [if_pos d, if_pos d]; rfl
        · rw [if_neg d, if_neg d]; rfl
    · rw [if_neg (by omega), e2, if_neg Bool.false_ne_true, if_neg (show ¬ (0 < i ∧ (l.getD (i - 1) zA).f0 ≥ (l.getD i zA).f0) from fun h => c2 h.1)]
      by_cases d : (l.getD i zA).f1 < 1 ∨ (l.getD i zA).f1 > 99
      · rw [if_pos d, if_pos d]; rfl
      · rw [if_neg d, if_neg d]; rfl
theorem checkArcs_ev (l : List Ac) (np : Int) (hl : l.length ≤ 1000000) : Ev (fun k => net_checkArcs.f k l np) (arcsE np l) :=
  Ev_loop (L := fun k i => net_checkArcs.l0 k l np l (l.length : Int) (i : Int)) 3 (arcE np l) (fun k i hi => checkArcs_step k l np i hi hl)
    (Ev.one (fun k => by simp only [net_checkArcs.l0]; rw [if_neg (by omega)]))

/-! ### a transition -/
def transE (np : Int) (t : Tra) : Int := if t.f4 < 0 ∨ t.f4 > 9 then 1 else if arcsE np t.f1 ≠ 0 then arcsE np t.f1 else if arcsE np t.f2 ≠ 0 then arcsE np t.f2 else arcsE np t.f3
def ThinT (t : Tra) : Prop := t.f0.size ≤ 1000000 ∧ t.f1.length ≤ 1000000 ∧ t.f2.length ≤ 1000000 ∧ t.f3.length ≤ 1000000
theorem checkTrans_ev (t : Tra) (np : Int) (ht : ThinT t) : Ev (fun k => net_checkTrans.f k t.f0 t.f1 t.f2 t.f3 t.f4 np) (transE np t) := by
  have e0 : ∀ k, net_checkTrans.f k t.f0 t.f1 t.f2 t.f3 t.f4 np = net_checkTrans.j0 k np (decide (t.f4 < 0 ∨ t.f4 > 9)) t.f0 t.f1 t.f2 t.f3 t.f4 := fun k => by
    unfold net_checkTrans.f
    exact ite_or _ _ (fun b => net_checkTrans.j0 k np b t.f0 t.f1 t.f2 t.f3 t.f4)
  refine Ev.congr e0 ?_
  unfold transE
  by_cases c : t.f4 < 0 ∨ t.f4 > 9
  · rw [decide_eq_true c, if_pos c]
    exact Ev.one (fun k => by simp only [net_checkTrans.j0, ↓reduceIte])
  · rw [decide_eq_false c, if_neg c]
    refine Ev.step (f := fun k => net_checkTrans.l0 k np [t.f1, t.f2, t.f3] 3 ((0 : Nat) : Int)) (fun k => by simp only [net_checkTrans.j0]; rw [if_neg Bool.false_ne_true]; rfl) ?_
    have hm : ∀ i, i < 3 → ([t.f1, t.f2, t.f3].getD i []).length ≤ 1000000 := fun i hi => by
      obtain ⟨_, h1, h2, h3⟩ := ht
      rcases i with _ | _ | _ | i
      · exact h1
      · exact h2
      · exact h3
      · omega
    have h := Ev_first (L := fun k i => net_checkTrans.l0 k np [t.f1, t.f2, t.f3] 3 (i : Int)) (n := 3) (fun i => if arcsE np ([t.f1, t.f2, t.f3].getD i []) = 0 then none else some (arcsE np ([t.f1, t.f2, t.f3].getD i []))) (e := 0)
      (fun i hi hp r hr => Ev.step (f := fun k => (net_checkArcs.f k ([t.f1, t.f2, t.f3].getD i []) np).bind fun e => if e = 0 then net_checkTrans.l0 k np [t.f1, t.f2, t.f3] 3 ((i + 1 : Nat) : Int) else some e) (fun k => by
        simp only [net_checkTrans.l0]
        rw [if_pos (by omega), if_pos (by omega), if_pos (by simp only [List.length_cons, List.length_nil]; omega), rdAs, wrap_up hi (by omega)]) (by
          refine Ev.bind (checkArcs_ev _ np (hm i hi)) ?_
          have h0 : arcsE np ([t.f1, t.f2, t.f3].getD i []) = 0 := of_ite_none hp
          simp only [h0, ↓reduceIte]
          exact hr))
      (fun i r hi hp => Ev.step (f := fun k => (net_checkArcs.f k ([t.f1, t.f2, t.f3].getD i []) np).bind fun e => if e = 0 then net_checkTrans.l0 k np [t.f1, t.f2, t.f3] 3 ((i + 1 : Nat) : Int) else some e) (fun k => by
        simp only [net_checkTrans.l0]
        rw [if_pos (by omega), if_pos (by omega), if_pos (by simp only [List.length_cons, List.length_nil]; omega), rdAs, wrap_up hi (by omega)]) (by
          refine Ev.bind (checkArcs_ev _ np (hm i hi)) ?_
          obtain ⟨h0, rfl⟩ := of_ite_some hp
          simp only [h0, ↓reduceIte]
          exact Ev.some _))
      (Ev.one (fun k => by simp only [net_checkTrans.l0]; rw [if_neg (by omega)]))
    have e3 : first (fun i => if arcsE np ([t.f1, t.f2, t.f3].getD i []) = 0 then none else some (arcsE np ([t.f1, t.f2, t.f3].getD i []))) 0 3 = if arcsE np t.f1 ≠ 0 then arcsE np t.f1 else if arcsE np t.f2 ≠ 0 then arcsE np t.f2 else arcsE np t.f3 := by
      unfold first firstOr firstOr firstOr firstOr
      simp only [List.getD_cons_zero, List.getD_cons_succ]
      by_cases h1 : arcsE np t.f1 = 0
      · by_cases h2 : arcsE np t.f2 = 0
        · by_cases h3 : arcsE np t.f3 = 0 <;> simp [h1, h2, h3]
        · simp [h1, h2]
      · simp [h1]
    rw [← e3]
    exact h

/-! ### the check -/
def nmE (ns : List ByteArray) (s : ByteArray) : Int := if nameB s = true then (if (ns.any fun o => o.toList == s.toList) = true then 6 else 0) else 5
def plR (ps : List Pla) (i : Nat) : Int := if nmE ((ps.take i).map (·.f0)) (ps.getD i zP).f0 ≠ 0 then nmE ((ps.take i).map (·.f0)) (ps.getD i zP).f0 else placeE (ps.getD i zP).f1 (ps.getD i zP).f2
def trR (ps : List Pla) (ts : List Tra) (i : Nat) : Int := if nmE (ps.map (·.f0) ++ (ts.take i).map (·.f0)) (ts.getD i zT).f0 ≠ 0 then nmE (ps.map (·.f0) ++ (ts.take i).map (·.f0)) (ts.getD i zT).f0 else transE (ps.length : Int) (ts.getD i zT)
def pF (ps : List Pla) (i : Nat) : Option (Int × Int) := if plR ps i = 0 then none else some (plR ps i, (i : Int))
def tF (ps : List Pla) (ts : List Tra) (i : Nat) : Option (Int × Int) := if trR ps ts i = 0 then none else some (trR ps ts i, (ps.length : Int) + (i : Int))
def checkS (nm : ByteArray) (ps : List Pla) (ts : List Tra) : Int × Int :=
  if nameB nm = true then (if (ps.length : Int) < 1 ∨ (24 : Int) < (ps.length : Int) ∨ (24 : Int) < (ts.length : Int) then (2, 0) else first (pF ps) (first (tF ps ts) (0, 0) ts.length) ps.length) else (5, 0)
def validS (nm : ByteArray) (ps : List Pla) (ts : List Tra) : Bool := (checkS nm ps ts).1 == 0
/-- What is asked of a net's size for its parts to be told. -/
def Thin (ts : List Tra) : Prop := ∀ t ∈ ts, ThinT t
theorem Thin.at {ts : List Tra} (h : Thin ts) {i : Nat} (hi : i < ts.length) : ThinT (ts.getD i zT) := h _ (getD_mem ts zT hi)
theorem addM_ev {ns : List ByteArray} {s : ByteArray} (h : ns.length < 1000000) : addM ns s = some (nmE ns s, if nmE ns s = 0 then ns ++ [s] else ns) := by
  unfold addM nmE
  by_cases h1 : nameB s = true
  · by_cases h2 : (ns.any fun o => o.toList == s.toList) = true
    · simp [h1, h2]
    · rw [if_pos h1, if_neg h2, if_pos h, if_pos h1, if_neg h2]; simp
  · simp [h1]
theorem check_ts {ps : List Pla} {ts : List Tra} (hp : ps.length ≤ 24) (ht : ts.length ≤ 24) (hT : Thin ts) : Ev (fun k => net_Check.l1 k ps ts (ps.map (·.f0)) 0) (first (tF ps ts) (0, 0) ts.length) := by
  have hlen : ∀ i, i ≤ ts.length → (ps.map (·.f0) ++ (ts.take i).map (·.f0)).length < 1000000 := fun i hi => by simp only [List.length_append, List.length_map, List.length_take]; omega
  have stp : ∀ i, i < ts.length → ∀ k, net_Check.l1 (k + 1) ps ts (ps.map (·.f0) ++ (ts.take i).map (·.f0)) (i : Int) = if nmE (ps.map (·.f0) ++ (ts.take i).map (·.f0)) (ts.getD i zT).f0 = 0 then ((net_checkTrans.f k (ts.getD i zT).f0 (ts.getD i zT).f1 (ts.getD i zT).f2 (ts.getD i zT).f3 (ts.getD i zT).f4 (ps.length : Int)).bind fun e => if e = 0 then net_Check.l1 k ps ts (ps.map (·.f0) ++ (ts.take (i + 1)).map (·.f0)) ((i + 1 : Nat) : Int) else some (e, (ps.length : Int) + (i : Int))) else some (nmE (ps.map (·.f0) ++ (ts.take i).map (·.f0)) (ts.getD i zT).f0, (ps.length : Int) + (i : Int)) := fun i hi k => by
    simp only [net_Check.l1]
    rw [if_pos (by omega), if_pos (by omega), rdT, addM_ev (hlen i (by omega)), wrap_up hi (by omega), wrap_ok (x := (ps.length : Int) + (i : Int)) (by omega) (by omega)]
    simp only [Option.bind_some]
    by_cases h0 : nmE (ps.map (·.f0) ++ (ts.take i).map (·.f0)) (ts.getD i zT).f0 = 0
    · rw [if_pos h0, if_pos h0, if_pos h0, List.append_assoc, ← take_map_succ ts (fun t => t.f0) zT hi]
    · rw [if_neg h0, if_neg h0]
  have h := Ev_first (L := fun k i => net_Check.l1 k ps ts (ps.map (·.f0) ++ (ts.take i).map (·.f0)) (i : Int)) (n := ts.length) (tF ps ts) (e := ((0 : Int), (0 : Int)))
    (fun i hi hf r hr => Ev.step (stp i hi) (by
      have hz : trR ps ts i = 0 := of_ite_none hf
      by_cases h0 : nmE (ps.map (·.f0) ++ (ts.take i).map (·.f0)) (ts.getD i zT).f0 = 0
      · unfold trR at hz
        rw [if_neg (by simpa using h0)] at hz
        simp only [h0, ↓reduceIte]
        refine Ev.bind (checkTrans_ev _ _ (hT.at hi)) ?_
        simp only [hz, ↓reduceIte]
        exact hr
      · unfold trR at hz
        rw [if_pos h0] at hz
        exact absurd hz h0))
    (fun i r hi hf => Ev.step (stp i hi) (by
      obtain ⟨hz, rfl⟩ := of_ite_some hf
      by_cases h0 : nmE (ps.map (·.f0) ++ (ts.take i).map (·.f0)) (ts.getD i zT).f0 = 0
      · have e : trR ps ts i = transE (ps.length : Int) (ts.getD i zT) := by unfold trR; rw [if_neg (by simpa using h0)]
        rw [e] at hz ⊢
        simp only [h0, ↓reduceIte]
        refine Ev.bind (checkTrans_ev _ _ (hT.at hi)) ?_
        simp only [hz, ↓reduceIte]
        exact Ev.some _
      · have e : trR ps ts i = nmE (ps.map (·.f0) ++ (ts.take i).map (·.f0)) (ts.getD i zT).f0 := by unfold trR; rw [if_pos h0]
        rw [e]
        simp only [h0, ↓reduceIte]
        exact Ev.some _))
    (Ev.one (fun k => by simp only [net_Check.l1]; rw [if_neg (by omega)]))
  simpa using h
theorem check_ps {ps : List Pla} {ts : List Tra} (hp : ps.length ≤ 24) (ht : ts.length ≤ 24) (hT : Thin ts) : Ev (fun k => net_Check.l0 k ps ts [] 0) (first (pF ps) (first (tF ps ts) (0, 0) ts.length) ps.length) := by
  have hlen : ∀ i, i ≤ ps.length → ((ps.take i).map (·.f0)).length < 1000000 := fun i hi => by simp only [List.length_map, List.length_take]; omega
  have stp : ∀ i, i < ps.length → ∀ k, net_Check.l0 (k + 1) ps ts ((ps.take i).map (·.f0)) (i : Int) = if nmE ((ps.take i).map (·.f0)) (ps.getD i zP).f0 = 0 then (if placeE (ps.getD i zP).f1 (ps.getD i zP).f2 = 0 then net_Check.l0 k ps ts ((ps.take (i + 1)).map (·.f0)) ((i + 1 : Nat) : Int) else some (placeE (ps.getD i zP).f1 (ps.getD i zP).f2, (i : Int))) else some (nmE ((ps.take i).map (·.f0)) (ps.getD i zP).f0, (i : Int)) := fun i hi k => by
    simp only [net_Check.l0]
    rw [if_pos (by omega), if_pos (by omega), rdP, addM_ev (hlen i (by omega)), wrap_up hi (by omega)]
    simp only [Option.bind_some, net_checkPlace.f]
    by_cases h0 : nmE ((ps.take i).map (·.f0)) (ps.getD i zP).f0 = 0
    · rw [if_pos h0, if_pos h0, if_pos h0, ← take_map_succ ps (fun t => t.f0) zP hi]
    · rw [if_neg h0, if_neg h0]
  have h := Ev_first (L := fun k i => net_Check.l0 k ps ts ((ps.take i).map (·.f0)) (i : Int)) (n := ps.length) (pF ps) (e := first (tF ps ts) (0, 0) ts.length)
    (fun i hi hf r hr => Ev.step (stp i hi) (by
      have hz : plR ps i = 0 := of_ite_none hf
      by_cases h0 : nmE ((ps.take i).map (·.f0)) (ps.getD i zP).f0 = 0
      · unfold plR at hz
        rw [if_neg (by simpa using h0)] at hz
        simp only [h0, hz, ↓reduceIte]
        exact hr
      · unfold plR at hz
        rw [if_pos h0] at hz
        exact absurd hz h0))
    (fun i r hi hf => Ev.step (stp i hi) (by
      obtain ⟨hz, rfl⟩ := of_ite_some hf
      by_cases h0 : nmE ((ps.take i).map (·.f0)) (ps.getD i zP).f0 = 0
      · have e : plR ps i = placeE (ps.getD i zP).f1 (ps.getD i zP).f2 := by unfold plR; rw [if_neg (by simpa using h0)]
        rw [e] at hz ⊢
        simp only [h0, hz, ↓reduceIte]
        exact Ev.some _
      · have e : plR ps i = nmE ((ps.take i).map (·.f0)) (ps.getD i zP).f0 := by unfold plR; rw [if_pos h0]
        rw [e]
        simp only [h0, ↓reduceIte]
        exact Ev.some _))
    (by
      refine Ev.step (f := fun k => net_Check.l1 k ps ts (ps.map (·.f0)) 0) (fun k => ?_) (check_ts hp ht hT)
      simp only [net_Check.l0]
      rw [if_neg (by omega), List.take_length])
  simpa using h
theorem check_ev (nm : ByteArray) {ps : List Pla} {ts : List Tra} (hT : Thin ts) : Ev (fun k => net_Check.f k nm ps ts) (checkS nm ps ts) := by
  unfold net_Check.f checkS
  by_cases h1 : nameB nm = true
  · by_cases h2 : (ps.length : Int) < 1 ∨ (24 : Int) < (ps.length : Int) ∨ (24 : Int) < (ts.length : Int)
    · simp only [h1, h2, ↓reduceIte]; exact Ev.some _
    · simp only [h1, h2, ↓reduceIte]
      exact check_ps (by omega) (by omega) hT
  · simp only [h1]; exact Ev.some _
theorem valid_ev (nm : ByteArray) {ps : List Pla} {ts : List Tra} (hT : Thin ts) : Ev (fun k => net_valid.f k nm ps ts) (validS nm ps ts) := by
  unfold net_valid.f
  exact Ev.bind (check_ev nm hT) (Ev.some _)
end Go.Proofs.Ytplljicodflagaa.Pl
/- The small nets. -/
namespace Go.Proofs.Ytplljicodflagaa.Pl
open Go.RowKit Go.Proofs.Ytplljicodflagaa.P Go.Proofs.YtplljicodflagaaW.PrintWords Go.Proofs.YtplljicodflagaaW.PrintMore

def smT (t : Tra) : Option Bool := if (t.f0.size : Int) > 20 ∨ (t.f1.length : Int) > 26 ∨ (t.f2.length : Int) > 26 ∨ (t.f3.length : Int) > 26 then some false else none
def smP (p : Pla) : Option Bool := if (p.f0.size : Int) > 20 then some false else none
def smallS (nm : ByteArray) (ps : List Pla) (ts : List Tra) : Bool :=
  if (ps.length : Int) > 26 ∨ (ts.length : Int) > 26 ∨ (nm.size : Int) > 20 then false else first (fun i => smP (ps.getD i zP)) (first (fun i => smT (ts.getD i zT)) true ts.length) ps.length
structure SmallN (nm : ByteArray) (ps : List Pla) (ts : List Tra) : Prop where
  p : ps.length ≤ 26
  t : ts.length ≤ 26
  n : nm.size ≤ 20
  pn : ∀ i, i < ps.length → (ps.getD i zP).f0.size ≤ 20
  tn : ∀ i, i < ts.length → (ts.getD i zT).f0.size ≤ 20 ∧ (ts.getD i zT).f1.length ≤ 26 ∧ (ts.getD i zT).f2.length ≤ 26 ∧ (ts.getD i zT).f3.length ≤ 26
theorem smallS_true {nm : ByteArray} {ps : List Pla} {ts : List Tra} (h : smallS nm ps ts = true) : SmallN nm ps ts := by
  unfold smallS at h
  by_cases c : (ps.length : Int) > 26 ∨ (ts.length : Int) > 26 ∨ (nm.size : Int) > 20
  · rw [if_pos c] at h; cases h
  · rw [if_neg c] at h
    rcases first_cases (fun i => smP (ps.getD i zP)) (first (fun i => smT (ts.getD i zT)) true ts.length) ps.length with ⟨h1, h2⟩ | ⟨j, h1, h2, _⟩
    · rw [h1] at h
      rcases first_cases (fun i => smT (ts.getD i zT)) true ts.length with ⟨k1, k2⟩ | ⟨j, k1, k2, _⟩
      · refine ⟨by omega, by omega, by omega, fun i hi => ?_, fun i hi => ?_⟩
        · have := h2 i hi
          unfold smP at this
          by_cases d : ((ps.getD i zP).f0.size : Int) > 20
          · rw [if_pos d] at this; cases this
          · omega
        · have := k2 i hi
          unfold smT at this
          by_cases d : ((ts.getD i zT).f0.size : Int) > 20 ∨ ((ts.getD i zT).f1.length : Int) > 26 ∨ ((ts.getD i zT).f2.length : Int) > 26 ∨ ((ts.getD i zT).f3.length : Int) > 26
          · rw [if_pos d] at this; cases this
          · omega
      · rw [h] at k2
        unfold smT at k2
        by_cases d : ((ts.getD j zT).f0.size : Int) > 20 ∨ ((ts.getD j zT).f1.length : Int) > 26 ∨ ((ts.getD j zT).f2.length : Int) > 26 ∨ ((ts.getD j zT).f3.length : Int) > 26
        · rw [if_pos d] at k2; cases k2
        · rw [if_neg d] at k2; cases k2
    · rw [h] at h2
      unfold smP at h2
      by_cases d : ((ps.getD j zP).f0.size : Int) > 20
      · rw [if_pos d] at h2; cases h2
      · rw [if_neg d] at h2; cases h2
theorem SmallN.thin {nm : ByteArray} {ps : List Pla} {ts : List Tra} (h : SmallN nm ps ts) : Thin ts := fun t ht => by
  obtain ⟨i, hi, rfl⟩ := List.getElem_of_mem ht
  have := h.tn i hi
  rw [List.getD_eq_getElem?_getD, List.getElem?_eq_getElem hi] at this
  obtain ⟨a, b, c, d⟩ := this
  exact ⟨Nat.le_trans a (by decide), Nat.le_trans b (by decide), Nat.le_trans c (by decide), Nat.le_trans d (by decide)⟩
def smallR (b : Bool) (nm : ByteArray) (ps : List Pla) (ts : List Tra) : ByteArray × List Pla × List Tra × Bool := if b = true then (nm, ps, ts, true) else (⟨#[]⟩, [], [], false)
theorem first_map {α β : Type} (f : α → β) (p : Nat → Option α) (e : α) (n : Nat) : first (fun i => (p i).map f) (f e) n = f (first p e n) := by
  rcases first_cases p e n with ⟨h1, h2⟩ | ⟨j, h1, h2, h3⟩
  · rw [h1]; exact first_all (fun j hj => by rw [h2 j hj]; rfl)
  · exact first_at j h1 (by rw [h2]; rfl) (fun m hm => by rw [h3 m hm]; rfl)
theorem small_ev (nm : ByteArray) (ps : List Pla) (ts : List Tra) : Ev (fun k => petrinetref09_Small.f k nm ps ts) (smallR (smallS nm ps ts) nm ps ts) := by
  have e0 : ∀ k, petrinetref09_Small.f k nm ps ts = petrinetref09_Small.j0 k (decide ((ps.length : Int) > 26 ∨ (ts.length : Int) > 26 ∨ (nm.size : Int) > 20)) nm ps ts := fun k => by
    unfold petrinetref09_Small.f
    rw [ite_or ((ts.length : Int) > 26) _ (fun b => petrinetref09_Small.j0 k b nm ps ts)]
    exact ite_or _ _ (fun b => petrinetref09_Small.j0 k b nm ps ts)
  refine Ev.congr e0 ?_
  unfold smallS
  by_cases c : (ps.length : Int) > 26 ∨ (ts.length : Int) > 26 ∨ (nm.size : Int) > 20
  · rw [decide_eq_true c, if_pos c]
    exact Ev.one (fun k => by simp only [petrinetref09_Small.j0, ↓reduceIte]; rfl)
  · rw [decide_eq_false c, if_neg c]
    refine Ev.step (f := fun k => petrinetref09_Small.l0 k ((0 : Nat) : Int) nm ps ts) (fun k => by simp only [petrinetref09_Small.j0]; rw [if_neg Bool.false_ne_true]; rfl) ?_
    have ht := Ev_loop (L := fun k i => petrinetref09_Small.l1 k (i : Int) nm ps ts) (n := ts.length) 1 (fun i => (smT (ts.getD i zT)).map (fun b => smallR b nm ps ts)) (e := smallR true nm ps ts)
      (fun k i hi => by
        simp only [petrinetref09_Small.l1]
        rw [if_pos (by omega), if_pos (by omega), rdT, wrap_up hi (by omega), ite_or2, ite_or2, ite_or2]
        unfold smT
        by_cases d : ((ts.getD i zT).f0.size : Int) > 20 ∨ ((ts.getD i zT).f1.length : Int) > 26 ∨ ((ts.getD i zT).f2.length : Int) > 26 ∨ ((ts.getD i zT).f3.length : Int) > 26
        · rw [if_pos d, if_pos (by omega)]; rfl
        · rw [if_neg d, if_neg (by omega)]; rfl)
      (Ev.one (fun k => by simp only [petrinetref09_Small.l1]; rw [if_neg (by omega)]; rfl))
    have hp := Ev_loop (L := fun k i => petrinetref09_Small.l0 k (i : Int) nm ps ts) (n := ps.length) 1 (fun i => (smP (ps.getD i zP)).map (fun b => smallR b nm ps ts)) (e := first (fun i => (smT (ts.getD i zT)).map (fun b => smallR b nm ps ts)) (smallR true nm ps ts) ts.length)
      (fun k i hi => by
        simp only [petrinetref09_Small.l0]
        rw [if_pos (by omega), if_pos (by omega), rdP, wrap_up hi (by omega)]
        unfold smP
        by_cases d : ((ps.getD i zP).f0.size : Int) > 20
        · rw [if_pos d, if_pos d]; rfl
        · rw [if_neg d, if_neg d]; rfl)
      (Ev.step (f := fun k => petrinetref09_Small.l1 k ((0 : Nat) : Int) nm ps ts) (fun k => by simp only [petrinetref09_Small.l0]; rw [if_neg (by omega)]; rfl) ht)
    rw [first_map (fun b => smallR b nm ps ts), first_map (fun b => smallR b nm ps ts)] at hp
    exact hp
end Go.Proofs.Ytplljicodflagaa.Pl
/- What the functions over nets answer, told plainly. -/
namespace Go.Proofs.Ytplljicodflagaa.Pl
open Go.RowKit Go.Proofs.Ytplljicodflagaa.P Go.Proofs.YtplljicodflagaaW.PrintWords Go.Proofs.YtplljicodflagaaW.PrintMore

def weightS (l : List Ac) (p : Int) : Int := first (fun i => if (l.getD i zA).f0 = p then some (l.getD i zA).f1 else none) 0 l.length
def preS (v : Bool) (ts : List Tra) (t p : Int) : Int := if v = true then (if t < 0 ∨ t ≥ (ts.length : Int) then 0 else weightS (ts.getD t.toNat zT).f1 p) else 0
def postS (v : Bool) (ts : List Tra) (t p : Int) : Int := if v = true then (if t < 0 ∨ t ≥ (ts.length : Int) then 0 else weightS (ts.getD t.toNat zT).f2 p) else 0
def inputsS (v : Bool) (ts : List Tra) (t : Int) : List Int := if v = true then (if t < 0 ∨ t ≥ (ts.length : Int) then [] else (ts.getD t.toNat zT).f1.map (·.f0)) else []
def outputsS (v : Bool) (ts : List Tra) (t : Int) : List Int := if v = true then (if t < 0 ∨ t ≥ (ts.length : Int) then [] else (ts.getD t.toNat zT).f2.map (·.f0)) else []
def plainP (ps : List Pla) (e : Bool) : Bool := first (fun i => if (ps.getD i zP).f2 ≠ 0 then some false else none) e ps.length
def plainT (ts : List Tra) (e : Bool) : Bool := first (fun i => if ((ts.getD i zT).f3.length : Int) > 0 ∨ (ts.getD i zT).f4 ≠ 0 then some false else none) e ts.length
def plainS (v : Bool) (ps : List Pla) (ts : List Tra) : Bool := plainT ts (plainP ps v)
theorem plainP_eq (ps : List Pla) (e : Bool) : plainP ps e = if ∃ i, i < ps.length ∧ (ps.getD i zP).f2 ≠ 0 then false else e := first_any _ _ _ _
theorem plainT_eq (ts : List Tra) (e : Bool) : plainT ts e = if ∃ i, i < ts.length ∧ (((ts.getD i zT).f3.length : Int) > 0 ∨ (ts.getD i zT).f4 ≠ 0) then false else e := first_any _ _ _ _
theorem plain_swap (v : Bool) (ps : List Pla) (ts : List Tra) : plainS v ps ts = if v = true then plainP ps (plainT ts true) else false := by
  unfold plainS
  rw [plainT_eq, plainP_eq, plainP_eq, plainT_eq]
  cases v <;> by_cases c1 : ∃ i, i < ps.length ∧ (ps.getD i zP).f2 ≠ 0 <;> by_cases c2 : ∃ i, i < ts.length ∧ (((ts.getD i zT).f3.length : Int) > 0 ∨ (ts.getD i zT).f4 ≠ 0) <;> simp only [c1, c2, if_true, if_false, Bool.false_eq_true, ite_self]
def ordinaryS (v : Bool) (ts : List Tra) : Bool := if (ts.all fun t => (t.f1.all fun a => a.f1 == 1) && (t.f2.all fun a => a.f1 == 1)) = true then v else false
def producersS (v : Bool) (ts : List Tra) (p : Int) : List Int := if v = true then ((List.range ts.length).filter fun t : Nat => decide (weightS (ts.getD t zT).f2 p > 0)).map (fun t : Nat => (t : Int)) else []
def consumersS (v : Bool) (ts : List Tra) (p : Int) : List Int := if v = true then ((List.range ts.length).filter fun t : Nat => decide (weightS (ts.getD t zT).f1 p > 0)).map (fun t : Nat => (t : Int)) else []

/-! ### equal nets -/
theorem first_bool {n : Nat} (c : Nat → Bool) : first (fun i => if c i = true then some false else none) true n = true ↔ ∀ i, i < n → c i = false := by
  rw [first_any (fun i => c i = true)]
  constructor
  · intro h i hi
    refine Bool.eq_false_iff.2 fun hc => ?_
    rw [if_pos ⟨i, hi, hc⟩] at h
    cases h
  · intro h
    rw [if_neg]
    rintro ⟨i, hi, hc⟩
    rw [h i hi] at hc
    cases hc
end Go.Proofs.Ytplljicodflagaa.Pl
/- What the program's functions over nets answer: the initial marking, the classes, the incidence matrix. -/
namespace Go.Proofs.Ytplljicodflagaa.Pl
set_option linter.unusedVariables false
open Go.RowKit Go.Proofs.Ytplljicodflagaa.P Go.Proofs.YtplljicodflagaaW.PrintWords Go.Proofs.YtplljicodflagaaW.PrintMore

theorem plain_ev (nm : ByteArray) {ps : List Pla} {ts : List Tra} (hp : ps.length ≤ 1000000) (ht : ts.length ≤ 1000000) (hT : Thin ts) : Ev (fun k => net_Plain.f k nm ps ts) (plainS (validS nm ps ts) ps ts) := by
  have h1 := Ev_loop (L := fun k i => net_Plain.l1 k ps (ps.length : Int) (i : Int) nm ps ts) (n := ps.length) 1 (fun i => if (ps.getD i zP).f2 ≠ 0 then some false else none) (e := validS nm ps ts)
    (fun k i hi => by
      simp only [net_Plain.l1]
      rw [if_pos (by omega), if_pos (by omega), if_pos (by omega), rdP, wrap_up hi (by omega)]
      by_cases c : (ps.getD i zP).f2 = 0
      · rw [if_pos c, if_neg (by simpa using c)]; rfl
      · rw [if_neg c, if_pos c]; rfl)
    (Ev.step (f := fun k => (net_valid.f k nm ps ts).bind fun t => some t) (fun k => by simp only [net_Plain.l1]; rw [if_neg (by omega)]) (Ev.bind (valid_ev nm hT) (Ev.some _)))
  exact Ev_loop (L := fun k i => net_Plain.l0 k ts (ts.length : Int) (i : Int) nm ps ts) (n := ts.length) 1 (fun i => if ((ts.getD i zT).f3.length : Int) > 0 ∨ (ts.getD i zT).f4 ≠ 0 then some false else none) (e := plainP ps (validS nm ps ts))
    (fun k i hi => by
      simp only [net_Plain.l0]
      rw [if_pos (by omega), if_pos (by omega), if_pos (by omega), rdT, wrap_up hi (by omega)]
      by_cases c1 : ((ts.getD i zT).f3.length : Int) > 0
      · rw [if_pos c1, if_pos (Or.inl c1)]; rfl
      · rw [if_neg c1]
        by_cases c2 : (ts.getD i zT).f4 = 0
        · rw [if_pos c2, if_neg (fun h => h.elim c1 (fun h => h c2))]; rfl
        · rw [if_neg c2, if_pos (Or.inr c2)]; rfl)
    (Ev.step (f := fun k => net_Plain.l1 k ps (ps.length : Int) ((0 : Nat) : Int) nm ps ts) (fun k => by simp only [net_Plain.l0]; rw [if_neg (by omega)]; rfl) h1)
theorem ordinary_ev (nm : ByteArray) {ps : List Pla} {ts : List Tra} (hT : Thin ts) : Ev (fun k => net_Ordinary.f k nm ps ts) (ordinaryS (validS nm ps ts) ts) := by
  unfold net_Ordinary.f ordinaryS
  by_cases c : (ts.all ordB) = true
  · have c2 : (ts.all fun t => (t.f1.all fun a => a.f1 == 1) && (t.f2.all fun a => a.f1 == 1)) = true := c
    simp only [c, c2, ↓reduceIte]
    exact valid_ev nm hT
  · have c2 : ¬ (ts.all fun t => (t.f1.all fun a => a.f1 == 1) && (t.f2.all fun a => a.f1 == 1)) = true := c
    simp only [c, c2]
    exact Ev.some _
end Go.Proofs.Ytplljicodflagaa.Pl
/- What the program's functions over nets answer: what the arcs of a list say. -/
namespace Go.Proofs.Ytplljicodflagaa.Pl
set_option linter.unusedVariables false
open Go.RowKit Go.Proofs.Ytplljicodflagaa.P Go.Proofs.YtplljicodflagaaW.PrintWords Go.Proofs.YtplljicodflagaaW.PrintMore

theorem weight_ev (l : List Ac) (p : Int) (hl : l.length ≤ 1000000) : Ev (fun k => net_weight.f k l p) (weightS l p) :=
  Ev_loop (L := fun k i => net_weight.l0 k p l (l.length : Int) (i : Int)) 1 _ (fun k i hi => by
    simp only [net_weight.l0]
    rw [if_pos (by omega), if_pos (by omega), if_pos (by omega), rdA, wrap_up hi (by omega)]
    by_cases c : (l.getD i zA).f0 = p
    · rw [if_pos c, if_pos c]; rfl
    · rw [if_neg c, if_neg c]; rfl) (Ev.one (fun k => by simp only [net_weight.l0]; rw [if_neg (by omega)]))
theorem targets_ev (l : List Ac) (hl : l.length ≤ 1000000) : Ev (fun k => net_targets.f k l) (l.map (·.f0)) := by
  have h := Ev_up (L := fun k i => net_targets.l0 k ((l.take i).map (·.f0)) l (l.length : Int) (i : Int)) (n := l.length) (r := l.map (·.f0))
    (fun i hi hr => Ev.step (fun k => by
      simp only [net_targets.l0]
      rw [if_pos (by omega), if_pos (by omega), if_pos (by omega), if_pos (by simp only [List.length_map, List.length_take]; omega), rdA, wrap_up hi (by omega), ← take_map_succ l (fun a => a.f0) zA hi]) hr)
    (Ev.one (fun k => by simp only [net_targets.l0]; rw [if_neg (by omega), List.take_length]))
  unfold net_targets.f
  simpa using h
end Go.Proofs.Ytplljicodflagaa.Pl
/- The places of a list that a test takes, one by one. -/
namespace Go.Proofs.Ytplljicodflagaa.Pl
open Go.RowKit
theorem filter_len (q : Nat → Bool) (i : Nat) : (((List.range i).filter q).map (fun t : Nat => (t : Int))).length ≤ i := by
  rw [List.length_map]
  exact Nat.le_trans (List.length_filter_le _ _) (by rw [List.length_range]; exact Nat.le_refl _)
theorem filter_next (q : Nat → Bool) (i : Nat) : ((List.range (i + 1)).filter q).map (fun t : Nat => (t : Int)) = if q i = true then ((List.range i).filter q).map (fun t : Nat => (t : Int)) ++ [(i : Int)] else ((List.range i).filter q).map (fun t : Nat => (t : Int)) := by
  rw [filter_range_succ]
  by_cases h : q i = true
  · rw [if_pos h, if_pos h, List.map_append]; rfl
  · rw [if_neg h, if_neg h]
end Go.Proofs.Ytplljicodflagaa.Pl
/- What the program's functions over nets answer: neighbours. -/
namespace Go.Proofs.Ytplljicodflagaa.Pl
set_option linter.unusedVariables false
open Go.RowKit Go.Proofs.Ytplljicodflagaa.P Go.Proofs.YtplljicodflagaaW.PrintWords Go.Proofs.YtplljicodflagaaW.PrintMore

theorem inputs_ev (nm : ByteArray) {ps : List Pla} {ts : List Tra} (t : Int) (ht : ts.length ≤ 1000000) (hT : Thin ts) : Ev (fun k => net_Inputs.f k nm ps ts t) (inputsS (validS nm ps ts) ts t) := by
  unfold net_Inputs.f inputsS
  refine Ev.bind (valid_ev nm hT) ?_
  by_cases hv : validS nm ps ts = true
  · simp only [hv, ↓reduceIte]
    by_cases c : t < 0 ∨ t ≥ (ts.length : Int)
    · rw [if_pos c]
      exact Ev.congr (f := fun _ => some []) (fun k => by rw [ite_or2, if_pos c]) (Ev.some _)
    · rw [if_neg c]
      obtain ⟨i, rfl⟩ : ∃ i : Nat, t = i := ⟨t.toNat, by omega⟩
      have hi : i < ts.length := by omega
      refine Ev.congr (f := fun k => (net_targets.f k (ts.getD i zT).f1).bind fun x => some x) (fun k => by rw [ite_or2, if_neg c, if_pos (by omega), if_pos (by omega), rdT]) ?_
      exact Ev.bind (targets_ev _ (hT.at hi).2.1) (Ev.some _)
  · simp only [hv]; exact Ev.some _
theorem outputs_ev (nm : ByteArray) {ps : List Pla} {ts : List Tra} (t : Int) (ht : ts.length ≤ 1000000) (hT : Thin ts) : Ev (fun k => net_Outputs.f k nm ps ts t) (outputsS (validS nm ps ts) ts t) := by
  unfold net_Outputs.f outputsS
  refine Ev.bind (valid_ev nm hT) ?_
  by_cases hv : validS nm ps ts = true
  · simp only [hv, ↓reduceIte]
    by_cases c : t < 0 ∨ t ≥ (ts.length : Int)
    · rw [if_pos c]
      exact Ev.congr (f := fun _ => some []) (fun k => by rw [ite_or2, if_pos c]) (Ev.some _)
    · rw [if_neg c]
      obtain ⟨i, rfl⟩ : ∃ i : Nat, t = i := ⟨t.toNat, by omega⟩
      have hi : i < ts.length := by omega
      refine Ev.congr (f := fun k => (net_targets.f k (ts.getD i zT).f2).bind fun x => some x) (fun k => by rw [ite_or2, if_neg c, if_pos (by omega), if_pos (by omega), rdT]) ?_
      exact Ev.bind (targets_ev _ (hT.at hi).2.2.1) (Ev.some _)
  · simp only [hv]; exact Ev.some _
theorem producers_ev (nm : ByteArray) {ps : List Pla} {ts : List Tra} (p : Int) (ht : ts.length ≤ 1000000) (hT : Thin ts) : Ev (fun k => net_Producers.f k nm ps ts p) (producersS (validS nm ps ts) ts p) := by
  unfold net_Producers.f producersS
  refine Ev.bind (valid_ev nm hT) ?_
  by_cases hv : validS nm ps ts = true
  · simp only [hv, ↓reduceIte]
    exact Ev_up (L := fun k i => net_Producers.l0 k ts p (((List.range i).filter fun t : Nat => decide (weightS (ts.getD t zT).f2 p > 0)).map (fun t : Nat => (t : Int))) (i : Int)) (n := ts.length)
      (fun i hi hr => Ev.step (f := fun k => (net_weight.f k (ts.getD i zT).f2 p).bind fun t => if t > 0 then net_Producers.l0 k ts p ((((List.range i).filter fun t : Nat => decide (weightS (ts.getD t zT).f2 p > 0)).map (fun t : Nat => (t : Int))) ++ [(i : Int)]) ((i + 1 : Nat) : Int) else net_Producers.l0 k ts p (((List.range i).filter fun t : Nat => decide (weightS (ts.getD t zT).f2 p > 0)).map (fun t : Nat => (t : Int))) ((i + 1 : Nat) : Int)) (fun k => by
        simp only [net_Producers.l0]
        have := filter_len (fun t : Nat => decide (weightS (ts.getD t zT).f2 p > 0)) i
        rw [if_pos (by omega), if_pos (by omega), if_pos (by omega), rdT, wrap_up hi (by omega)]) (by
          refine Ev.bind (weight_ev _ p (hT.at hi).2.2.1) ?_
          rw [filter_next] at hr
          by_cases c : weightS (ts.getD i zT).f2 p > 0
          · simp only [c, decide_true, ↓reduceIte] at hr ⊢; exact hr
          · simp only [c, decide_false, ↓reduceIte, Bool.false_eq_true] at hr ⊢; exact hr))
      (Ev.one (fun k => by simp only [net_Producers.l0]; rw [if_neg (by omega)]))
  · simp only [hv]; exact Ev.some _
theorem consumers_ev (nm : ByteArray) {ps : List Pla} {ts : List Tra} (p : Int) (ht : ts.length ≤ 1000000) (hT : Thin ts) : Ev (fun k => net_Consumers.f k nm ps ts p) (consumersS (validS nm ps ts) ts p) := by
  unfold net_Consumers.f consumersS
  refine Ev.bind (valid_ev nm hT) ?_
  by_cases hv : validS nm ps ts = true
  · simp only [hv, ↓reduceIte]
    exact Ev_up (L := fun k i => net_Consumers.l0 k ts p (((List.range i).filter fun t : Nat => decide (weightS (ts.getD t zT).f1 p > 0)).map (fun t : Nat => (t : Int))) (i : Int)) (n := ts.length)
      (fun i hi hr => Ev.step (f := fun k => (net_weight.f k (ts.getD i zT).f1 p).bind fun t => if t > 0 then net_Consumers.l0 k ts p ((((List.range i).filter fun t : Nat => decide (weightS (ts.getD t zT).f1 p > 0)).map (fun t : Nat => (t : Int))) ++ [(i : Int)]) ((i + 1 : Nat) : Int) else net_Consumers.l0 k ts p (((List.range i).filter fun t : Nat => decide (weightS (ts.getD t zT).f1 p > 0)).map (fun t : Nat => (t : Int))) ((i + 1 : Nat) : Int)) (fun k => by
        simp only [net_Consumers.l0]
        have := filter_len (fun t : Nat => decide (weightS (ts.getD t zT).f1 p > 0)) i
        rw [if_pos (by omega), if_pos (by omega), if_pos (by omega), rdT, wrap_up hi (by omega)]) (by
          refine Ev.bind (weight_ev _ p (hT.at hi).2.1) ?_
          rw [filter_next] at hr
          by_cases c : weightS (ts.getD i zT).f1 p > 0
          · simp only [c, decide_true, ↓reduceIte] at hr ⊢; exact hr
          · simp only [c, decide_false, ↓reduceIte, Bool.false_eq_true] at hr ⊢; exact hr))
      (Ev.one (fun k => by simp only [net_Consumers.l0]; rw [if_neg (by omega)]))
  · simp only [hv]; exact Ev.some _

end Go.Proofs.Ytplljicodflagaa.Pl
/- The reference's names. -/
namespace Go.Proofs.Ytplljicodflagaa.Pl
open Go.RowKit Go.Proofs.Ytplljicodflagaa.P Go.Proofs.YtplljicodflagaaW.PrintWords Go.Proofs.YtplljicodflagaaW.PrintMore

/-! ### Name -/
set_option linter.unusedSimpArgs false in
theorem refname_step (k : Nat) (s : ByteArray) (i : Nat) (hi : i < s.size) (hs : s.size ≤ 1000000) :
    petrinetref09_Name.l0 (k + 1) s (i : Int) = stepO (if nameC (i : Int) (bt s (i : Int)) = true then none else some false) (petrinetref09_Name.l0 k s ((i + 1 : Nat) : Int)) := by
  simp only [petrinetref09_Name.l0]
  rw [if_pos (by omega), if_pos (by omega), wrap_up hi (by omega)]
  unfold nameC
  generalize bt s (i : Int) = c
  have e95 : (c == 95) = decide (c = 95) := by rw [Bool.eq_iff_iff]; simp
  have e46 : (c == 46) = decide (c = 46) := by rw [Bool.eq_iff_iff]; simp
  rw [e95, e46]
  have b7 : (0 : Int) < (i : Int) ↔ ¬ (i : Int) = 0 := by omega
  by_cases a1 : c ≥ 97 <;> by_cases a2 : c ≤ 122 <;> by_cases a3 : c = 95 <;> by_cases a4 : c ≥ 48 <;> by_cases a5 : c ≤ 57 <;> by_cases a6 : c = 46 <;> by_cases a7 : (i : Int) = 0 <;>
    first
    | (exfalso; omega)
    | (subst a3; simp [stepO]; done)
    | (subst a6
       have d7 : i = 0 := by omega
       simp [stepO, d7]; done)
    | (subst a6
       have d7 : ¬ i = 0 := by omega
       have d8 : 0 < i := by omega
       simp [stepO, d7, d8]; done)
    | (simp only [b7, a1, a2, a3, a4, a5, a6, a7, ge_iff_le.1 a1, ↓reduceIte, decide_true, decide_false, Bool.true_and, Bool.false_and, Bool.and_true, Bool.and_false, Bool.or_true, Bool.true_or, Bool.or_false, Bool.false_or, Bool.false_eq_true, not_true_eq_false, not_false_eq_true, stepO]; done)
    | (have c1 : ¬ 97 ≤ c := a1
       simp only [b7, a1, c1, a2, a3, a4, a5, a6, a7, ↓reduceIte, decide_true, decide_false, Bool.true_and, Bool.false_and, Bool.and_true, Bool.and_false, Bool.or_true, Bool.true_or, Bool.or_false, Bool.false_or, Bool.false_eq_true, not_true_eq_false, not_false_eq_true, stepO]; first | done | rfl)
theorem refname_ev (s : ByteArray) : Ev (fun k => petrinetref09_Name.f k s) (nameB s) := by
  have e0 : ∀ k, petrinetref09_Name.f k s = petrinetref09_Name.j0 k s (decide ((s.size : Int) < 1 ∨ (s.size : Int) > 16)) := fun k => by
    unfold petrinetref09_Name.f
    exact ite_or _ _ (fun b => petrinetref09_Name.j0 k s b)
  refine Ev.congr e0 ?_
  by_cases c : (s.size : Int) < 1 ∨ (s.size : Int) > 16
  · rw [decide_eq_true c]
    have hf : nameB s = false := by
      unfold nameB
      rcases c with c | c
      · rw [decide_eq_false (show ¬ 1 ≤ s.size by omega)]; rfl
      · rw [decide_eq_false (show ¬ s.size ≤ 16 by omega)]; simp
    rw [hf]
    exact Ev.one (fun k => by simp only [petrinetref09_Name.j0, ↓reduceIte])
  · rw [decide_eq_false c]
    refine Ev.step (f := fun k => petrinetref09_Name.l0 k s ((0 : Nat) : Int)) (fun k => by simp only [petrinetref09_Name.j0]; rw [if_neg Bool.false_ne_true]; rfl) ?_
    have h := Ev_loop (L := fun k i => petrinetref09_Name.l0 k s (i : Int)) (n := s.size) 1 (fun i => if nameC (i : Int) (bt s (i : Int)) = true then none else some false) (e := true)
      (fun k i hi => refname_step k s i hi (by omega)) (Ev.one (fun k => by simp only [petrinetref09_Name.l0]; rw [if_neg (by omega)]))
    have e : first (fun i => if nameC (i : Int) (bt s (i : Int)) = true then none else some false) true s.size = nameB s := by
      rcases first_cases (fun i => if nameC (i : Int) (bt s (i : Int)) = true then none else some false) true s.size with ⟨h1, h2⟩ | ⟨j, h1, h2, _⟩
      · rw [h1]
        exact (nameB_yes (by omega) (by omega) (fun i hi => of_ite_none (h2 i hi))).symm
      · obtain ⟨h3, h4⟩ := of_ite_some h2
        rw [← h4]
        exact (nameB_no h1 (Bool.eq_false_iff.2 h3)).symm
    rw [← e]
    exact h

end Go.Proofs.Ytplljicodflagaa.Pl
/- The reference's check answers the same. -/
namespace Go.Proofs.Ytplljicodflagaa.Pl
open Go.RowKit Go.Proofs.Ytplljicodflagaa.P Go.Proofs.YtplljicodflagaaW.PrintWords Go.Proofs.YtplljicodflagaaW.PrintMore

/-! ### a place -/
theorem nmE_loop (l : List ByteArray) (s : ByteArray) (h : nameB s = true) : nmE l s = if (l.any fun o => o.toList == s.toList) = true then 6 else 0 := by unfold nmE; rw [if_pos h]
theorem refplace_ev (nm : ByteArray) {ps : List Pla} (ts : List Tra) {i : Nat} (hi : i < ps.length) (hp : ps.length ≤ 1000000) : Ev (fun k => petrinetref09_place.f k nm ps ts (i : Int)) (plR ps i) := by
  have e0 : ∀ k, petrinetref09_place.f k nm ps ts (i : Int) = (petrinetref09_Name.f k (ps.getD i zP).f0).bind fun t => if t = true then petrinetref09_place.l0 k (i : Int) 0 nm ps ts (ps.getD i zP).f0 (ps.getD i zP).f1 (ps.getD i zP).f2 else some 5 := fun k => by
    unfold petrinetref09_place.f
    rw [if_pos (by omega), if_pos (by omega), rdP]
  refine Ev.congr e0 (Ev.bind (refname_ev _) ?_)
  unfold plR
  by_cases hn : nameB (ps.getD i zP).f0 = true
  · simp only [hn, ↓reduceIte]
    have hcap : Ev (fun k => petrinetref09_place.l0 k (i : Int) (i : Int) nm ps ts (ps.getD i zP).f0 (ps.getD i zP).f1 (ps.getD i zP).f2) (placeE (ps.getD i zP).f1 (ps.getD i zP).f2) := by
      refine Ev.stepn 2 (f := fun _ => some (placeE (ps.getD i zP).f1 (ps.getD i zP).f2)) (fun k => ?_) (Ev.some _)
      simp only [petrinetref09_place.l0]
      rw [if_neg (by omega), ite_or _ _ (fun b => petrinetref09_place.j1 (k + 1) b (ps.getD i zP).f0 (ps.getD i zP).f1 (ps.getD i zP).f2)]
      simp only [petrinetref09_place.j1]
      generalize (ps.getD i zP).f1 = x
      generalize (ps.getD i zP).f2 = c
      unfold placeE
      by_cases c1 : c < 0 ∨ c > 1048576
      · rw [decide_eq_true c1, if_pos rfl, if_pos c1]
      · rw [decide_eq_false c1, if_neg Bool.false_ne_true, if_neg c1]
        by_cases c2 : x < 0
        · rw [if_pos c2, if_pos (Or.inl (Or.inl c2))]
        · rw [if_neg c2]
          by_cases c3 : x > 1048576
          · rw [if_pos c3, if_pos (Or.inl (Or.inr c3))]
          · rw [if_neg c3]
            by_cases c4 : c = 0
            · rw [if_pos c4, if_neg (by omega)]
            · rw [if_neg c4]
              by_cases c5 : x > c
              · rw [if_pos c5, if_pos (Or.inr ⟨c4, c5⟩)]
              · rw [if_neg c5, if_neg (by omega)]
    have h := Ev_loop (L := fun k j => petrinetref09_place.l0 k (i : Int) (j : Int) nm ps ts (ps.getD i zP).f0 (ps.getD i zP).f1 (ps.getD i zP).f2) (n := i) 1 (fun j => if (ps.getD j zP).f0.toList = (ps.getD i zP).f0.toList then some 6 else none) (e := placeE (ps.getD i zP).f1 (ps.getD i zP).f2)
      (fun k j hj => by
        simp only [petrinetref09_place.l0]
        rw [if_pos (by omega), if_pos (by omega), if_pos (by omega), rdP, wrap_up hj (by omega)]
        by_cases c : (ps.getD j zP).f0.toList = (ps.getD i zP).f0.toList
        · rw [if_pos c, if_pos c]; rfl
        · rw [if_neg c, if_neg c]; rfl) hcap
    rw [first_any] at h
    have e : (∃ j, j < i ∧ (ps.getD j zP).f0.toList = (ps.getD i zP).f0.toList) ↔ (((ps.take i).map (·.f0)).any fun o => o.toList == (ps.getD i zP).f0.toList) = true := by
      rw [any_take ps (·.f0) _ zP (by omega)]
      simp only [beq_iff_eq]
    rw [nmE_loop _ _ hn]
    by_cases d : ∃ j, j < i ∧ (ps.getD j zP).f0.toList = (ps.getD i zP).f0.toList
    · rw [if_pos d] at h
      rw [if_pos (e.1 d), if_pos (by decide)]
      exact h
    · rw [if_neg d] at h
      rw [if_neg (fun x => d (e.2 x)), if_neg (by decide)]
      exact h
  · simp only [hn]
    have : nmE ((ps.take i).map (·.f0)) (ps.getD i zP).f0 = 5 := by unfold nmE; rw [if_neg hn]
    rw [this, if_pos (by decide)]
    exact Ev.some _

/-! ### arcs -/
theorem refarcs_step (k : Nat) (nm : ByteArray) (ps : List Pla) (ts : List Tra) (l : List Ac) (i : Nat) (hi : i < l.length) (hl : l.length ≤ 1000000) :
    petrinetref09_arcs.l0 (k + 3) l (i : Int) nm ps ts = stepO (arcE (ps.length : Int) l i) (petrinetref09_arcs.l0 k l ((i + 1 : Nat) : Int) nm ps ts) := by
  simp only [petrinetref09_arcs.l0]
  rw [if_pos (by omega), if_pos (by omega), rdA, ite_or _ _ (fun b => petrinetref09_arcs.j1 (k + 2) l (i : Int) b nm ps ts)]
  unfold arcE
  by_cases c1 : (l.getD i zA).f0 < 0 ∨ (l.getD i zA).f0 ≥ (ps.length : Int)
  · rw [decide_eq_true c1, if_pos c1]; simp only [petrinetref09_arcs.j1, ↓reduceIte, stepO]
  · rw [decide_eq_false c1, if_neg c1]
    have e2 : ∀ b : Bool, petrinetref09_arcs.j2 (k + 1) l (i : Int) b nm ps ts = if b = true then some 8 else if (l.getD i zA).f1 < 1 ∨ (l.getD i zA).f1 > 99 then some 9 else petrinetref09_arcs.l0 k l ((i + 1 : Nat) : Int) nm ps ts := by
      intro b
      simp only [petrinetref09_arcs.j2]
      cases b with
      | true => rw [if_pos rfl, if_pos rfl]
      | false => rw [if_neg Bool.false_ne_true, if_neg Bool.false_ne_true, if_pos (by omega), if_pos (by omega), rdA, wrap_up hi (by omega), ite_or2]
    simp only [petrinetref09_arcs.j1]
    rw [if_neg Bool.false_ne_true]
    by_cases c2 : 0 < i
    · rw [if_pos (by omega), if_pos (by omega), if_pos (by omega), if_pos (by rw [wrap_ok (by omega) (by omega)]; omega), if_pos (by rw [wrap_ok (by omega) (by omega)]; omega), wrap_ok (x := (i : Int) - 1) (by omega) (by omega), show ((i : Int) - 1) = ((i - 1 : Nat) : Int) by omega, rdA, rdA, e2]
      by_cases c3 : (l.getD (i - 1) zA).f0 ≥ (l.getD i zA).f0
      · rw [decide_eq_true (show (l.getD i zA).f0 ≤ (l.getD (i - 1) zA).f0 from c3), if_pos rfl, if_pos ⟨c2, c3⟩]; rfl
      · rw [decide_eq_false (show ¬ (l.getD i zA).f0 ≤ (l.getD (i - 1) zA).f0 from c3), if_neg Bool.false_ne_true, if_neg (show ¬ (0 < i ∧ (l.getD (i - 1) zA).f0 ≥ (l.getD i zA).f0) from fun h => c3 h.2)]
        by_cases d : (l.getD i zA).f1 < 1 ∨ (l.getD i zA).f1 > 99
        · rw [if_pos d, if_pos d]; rfl
        · rw [if_neg d, if_neg d]; rfl
    · rw [if_neg (by omega), e2, if_neg Bool.false_ne_true, if_neg (show ¬ (0 < i ∧ (l.getD (i - 1) zA).f0 ≥ (l.getD i zA).f0) from fun h => c2 h.1)]
      by_cases d : (l.getD i zA).f1 < 1 ∨ (l.getD i zA).f1 > 99
      · rw [if_pos d, if_pos d]; rfl
      · rw [if_neg d, if_neg d]; rfl
theorem refarcs_ev (nm : ByteArray) (ps : List Pla) (ts : List Tra) (l : List Ac) (hl : l.length ≤ 1000000) : Ev (fun k => petrinetref09_arcs.f k nm ps ts l) (arcsE (ps.length : Int) l) :=
  Ev_loop (L := fun k i => petrinetref09_arcs.l0 k l (i : Int) nm ps ts) 3 (arcE (ps.length : Int) l) (fun k i hi => refarcs_step k nm ps ts l i hi hl)
    (Ev.one (fun k => by simp only [petrinetref09_arcs.l0]; rw [if_neg (by omega)]))

/-! ### a transition -/
theorem reftrans_ev (nm : ByteArray) {ps : List Pla} {ts : List Tra} {i : Nat} (hi : i < ts.length) (hp : ps.length ≤ 1000000) (ht : ts.length ≤ 1000000) (hT : Thin ts) : Ev (fun k => petrinetref09_trans.f k nm ps ts (i : Int)) (trR ps ts i) := by
  have e0 : ∀ k, petrinetref09_trans.f k nm ps ts (i : Int) = (petrinetref09_Name.f k (ts.getD i zT).f0).bind fun t => if t = true then petrinetref09_trans.l0 k (i : Int) 0 nm ps ts (ts.getD i zT).f0 (ts.getD i zT).f1 (ts.getD i zT).f2 (ts.getD i zT).f3 (ts.getD i zT).f4 else some 5 := fun k => by
    unfold petrinetref09_trans.f
    rw [if_pos (by omega), if_pos (by omega), rdT]
  refine Ev.congr e0 (Ev.bind (refname_ev _) ?_)
  unfold trR
  have hth := hT.at hi
  generalize ts.getD i zT = t at hth
  by_cases hn : nameB t.f0 = true
  · simp only [hn, ↓reduceIte]
    have h2 : Ev (fun k => petrinetref09_trans.l1 k (i : Int) (i : Int) nm ps ts t.f0 t.f1 t.f2 t.f3 t.f4) (transE (ps.length : Int) t) := by
      refine Ev.step (f := fun k => petrinetref09_trans.j2 k (decide (t.f4 < 0 ∨ t.f4 > 9)) nm ps ts t.f0 t.f1 t.f2 t.f3 t.f4) (fun k => ?_) ?_
      · simp only [petrinetref09_trans.l1]
        rw [if_neg (by omega)]
        exact ite_or _ _ (fun b => petrinetref09_trans.j2 k b nm ps ts t.f0 t.f1 t.f2 t.f3 t.f4)
      · unfold transE
        by_cases c : t.f4 < 0 ∨ t.f4 > 9
        · rw [decide_eq_true c, if_pos c]
          exact Ev.one (fun k => by simp only [petrinetref09_trans.j2, ↓reduceIte])
        · rw [decide_eq_false c, if_neg c]
          refine Ev.step (f := fun k => (petrinetref09_arcs.f k nm ps ts t.f1).bind fun a => if a = 0 then ((petrinetref09_arcs.f k nm ps ts t.f2).bind fun b => if b = 0 then ((petrinetref09_arcs.f k nm ps ts t.f3).bind fun c => some c) else some b) else some a) (fun k => by simp only [petrinetref09_trans.j2]; rw [if_neg Bool.false_ne_true]) ?_
          refine Ev.bind (refarcs_ev nm ps ts _ hth.2.1) ?_
          by_cases d1 : arcsE (ps.length : Int) t.f1 = 0
          · rw [if_neg (by simpa using d1)]
            simp only [d1, ↓reduceIte]
            refine Ev.bind (refarcs_ev nm ps ts _ hth.2.2.1) ?_
            by_cases d2 : arcsE (ps.length : Int) t.f2 = 0
            · rw [if_neg (by simpa using d2)]
              simp only [d2, ↓reduceIte]
              exact Ev.bind (refarcs_ev nm ps ts _ hth.2.2.2) (Ev.some _)
            · rw [if_pos d2]
              simp only [d2, ↓reduceIte]
              exact Ev.some _
          · rw [if_pos d1]
            simp only [d1, ↓reduceIte]
            exact Ev.some _
    have h1 := Ev_loop (L := fun k j => petrinetref09_trans.l1 k (i : Int) (j : Int) nm ps ts t.f0 t.f1 t.f2 t.f3 t.f4) (n := i) 1 (fun j => if (ts.getD j zT).f0.toList = t.f0.toList then some 6 else none) (e := transE (ps.length : Int) t)
      (fun k j hj => by
        simp only [petrinetref09_trans.l1]
        rw [if_pos (by omega), if_pos (by omega), if_pos (by omega), rdT, wrap_up hj (by omega)]
        by_cases c : (ts.getD j zT).f0.toList = t.f0.toList
        · rw [if_pos c, if_pos c]; rfl
        · rw [if_neg c, if_neg c]; rfl) h2
    have h0 := Ev_loop (L := fun k j => petrinetref09_trans.l0 k (i : Int) (j : Int) nm ps ts t.f0 t.f1 t.f2 t.f3 t.f4) (n := ps.length) 1 (fun j => if (ps.getD j zP).f0.toList = t.f0.toList then some 6 else none) (e := first (fun j => if (ts.getD j zT).f0.toList = t.f0.toList then some 6 else none) (transE (ps.length : Int) t) i)
      (fun k j hj => by
        simp only [petrinetref09_trans.l0]
        rw [if_pos (by omega), if_pos (by omega), rdP, wrap_up hj (by omega)]
        by_cases c : (ps.getD j zP).f0.toList = t.f0.toList
        · rw [if_pos c, if_pos c]; rfl
        · rw [if_neg c, if_neg c]; rfl)
      (Ev.step (f := fun k => petrinetref09_trans.l1 k (i : Int) ((0 : Nat) : Int) nm ps ts t.f0 t.f1 t.f2 t.f3 t.f4) (fun k => by simp only [petrinetref09_trans.l0]; rw [if_neg (by omega)]; rfl) h1)
    rw [first_any, first_any] at h0
    have e : (((ps.map (·.f0)) ++ (ts.take i).map (·.f0)).any fun o => o.toList == t.f0.toList) = true ↔ (∃ j, j < ps.length ∧ (ps.getD j zP).f0.toList = t.f0.toList) ∨ (∃ j, j < i ∧ (ts.getD j zT).f0.toList = t.f0.toList) := by
      rw [List.any_append, Bool.or_eq_true, any_take ts (·.f0) _ zT (by omega), any_all ps (·.f0) _ zP]
      simp only [beq_iff_eq]
    rw [nmE_loop _ _ hn]
    by_cases d : ∃ j, j < ps.length ∧ (ps.getD j zP).f0.toList = t.f0.toList
    · rw [if_pos d] at h0
      rw [if_pos (e.2 (Or.inl d)), if_pos (by decide)]
      exact h0
    · rw [if_neg d] at h0
      by_cases d2 : ∃ j, j < i ∧ (ts.getD j zT).f0.toList = t.f0.toList
      · rw [if_pos d2] at h0
        rw [if_pos (e.2 (Or.inr d2)), if_pos (by decide)]
        exact h0
      · rw [if_neg d2] at h0
        rw [if_neg (fun x => (e.1 x).elim d d2), if_neg (by decide)]
        exact h0
  · simp only [hn]
    have : nmE (ps.map (·.f0) ++ (ts.take i).map (·.f0)) t.f0 = 5 := by unfold nmE; rw [if_neg hn]
    rw [this, if_pos (by decide)]
    exact Ev.some _

/-! ### the check -/
theorem refcheck_ev (nm : ByteArray) {ps : List Pla} {ts : List Tra} (hT : Thin ts) : Ev (fun k => petrinetref09_Check.f k nm ps ts) (checkS nm ps ts) := by
  unfold petrinetref09_Check.f checkS
  refine Ev.bind (refname_ev nm) ?_
  by_cases h1 : nameB nm = true
  · simp only [h1, ↓reduceIte]
    have e0 : ∀ k, (if (ps.length : Int) < 1 then petrinetref09_Check.j0 k true nm ps ts else if (ps.length : Int) > 24 then petrinetref09_Check.j0 k true nm ps ts else petrinetref09_Check.j0 k (decide ((ts.length : Int) > 24)) nm ps ts) = petrinetref09_Check.j0 k (decide ((ps.length : Int) < 1 ∨ (24 : Int) < (ps.length : Int) ∨ (24 : Int) < (ts.length : Int))) nm ps ts := fun k => by
      rw [ite_or ((ps.length : Int) > 24) _ (fun b => petrinetref09_Check.j0 k b nm ps ts)]
      exact ite_or _ _ (fun b => petrinetref09_Check.j0 k b nm ps ts)
    refine Ev.congr e0 ?_
    by_cases h2 : (ps.length : Int) < 1 ∨ (24 : Int) < (ps.length : Int) ∨ (24 : Int) < (ts.length : Int)
    · rw [decide_eq_true h2, if_pos h2]
      exact Ev.one (fun k => by simp only [petrinetref09_Check.j0, ↓reduceIte])
    · rw [decide_eq_false h2, if_neg h2]
      refine Ev.step (f := fun k => petrinetref09_Check.l0 k ((0 : Nat) : Int) nm ps ts) (fun k => by simp only [petrinetref09_Check.j0]; rw [if_neg Bool.false_ne_true]; rfl) ?_
      have ht := Ev_first (L := fun k i => petrinetref09_Check.l1 k (i : Int) nm ps ts) (n := ts.length) (tF ps ts) (e := ((0 : Int), (0 : Int)))
        (fun i hi hf r hr => Ev.step (f := fun k => (petrinetref09_trans.f k nm ps ts (i : Int)).bind fun t => if t = 0 then petrinetref09_Check.l1 k ((i + 1 : Nat) : Int) nm ps ts else some (t, (ps.length : Int) + (i : Int))) (fun k => by
          simp only [petrinetref09_Check.l1]
          rw [if_pos (by omega), wrap_up hi (by omega), wrap_ok (x := (ps.length : Int) + (i : Int)) (by omega) (by omega)]) (by
            refine Ev.bind (reftrans_ev nm hi (by omega) (by omega) hT) ?_
            have hz := of_ite_none hf
            simp only [hz, ↓reduceIte]
            exact hr))
        (fun i r hi hf => Ev.step (f := fun k => (petrinetref09_trans.f k nm ps ts (i : Int)).bind fun t => if t = 0 then petrinetref09_Check.l1 k ((i + 1 : Nat) : Int) nm ps ts else some (t, (ps.length : Int) + (i : Int))) (fun k => by
          simp only [petrinetref09_Check.l1]
          rw [if_pos (by omega), wrap_up hi (by omega), wrap_ok (x := (ps.length : Int) + (i : Int)) (by omega) (by omega)]) (by
            refine Ev.bind (reftrans_ev nm hi (by omega) (by omega) hT) ?_
            obtain ⟨hz, rfl⟩ := of_ite_some hf
            simp only [hz, ↓reduceIte]
            exact Ev.some _))
        (Ev.one (fun k => by simp only [petrinetref09_Check.l1]; rw [if_neg (by omega)]))
      exact Ev_first (L := fun k i => petrinetref09_Check.l0 k (i : Int) nm ps ts) (n := ps.length) (pF ps) (e := first (tF ps ts) (0, 0) ts.length)
        (fun i hi hf r hr => Ev.step (f := fun k => (petrinetref09_place.f k nm ps ts (i : Int)).bind fun t => if t = 0 then petrinetref09_Check.l0 k ((i + 1 : Nat) : Int) nm ps ts else some (t, (i : Int))) (fun k => by
          simp only [petrinetref09_Check.l0]
          rw [if_pos (by omega), wrap_up hi (by omega)]) (by
            refine Ev.bind (refplace_ev nm ts hi (by omega)) ?_
            have hz := of_ite_none hf
            simp only [hz, ↓reduceIte]
            exact hr))
        (fun i r hi hf => Ev.step (f := fun k => (petrinetref09_place.f k nm ps ts (i : Int)).bind fun t => if t = 0 then petrinetref09_Check.l0 k ((i + 1 : Nat) : Int) nm ps ts else some (t, (i : Int))) (fun k => by
          simp only [petrinetref09_Check.l0]
          rw [if_pos (by omega), wrap_up hi (by omega)]) (by
            refine Ev.bind (refplace_ev nm ts hi (by omega)) ?_
            obtain ⟨hz, rfl⟩ := of_ite_some hf
            simp only [hz, ↓reduceIte]
            exact Ev.some _))
        (Ev.step (f := fun k => petrinetref09_Check.l1 k ((0 : Nat) : Int) nm ps ts) (fun k => by simp only [petrinetref09_Check.l0]; rw [if_neg (by omega)]; rfl) ht)
  · simp only [h1]; exact Ev.some _
theorem refvalid_ev (nm : ByteArray) {ps : List Pla} {ts : List Tra} (hT : Thin ts) : Ev (fun k => petrinetref09_Valid.f k nm ps ts) (validS nm ps ts) := by
  unfold petrinetref09_Valid.f
  exact Ev.bind (refcheck_ev nm hT) (Ev.some _)
end Go.Proofs.Ytplljicodflagaa.Pl
/- What the reference's functions over lists of arcs answer. -/
namespace Go.Proofs.Ytplljicodflagaa.Pl
open Go.RowKit Go.Proofs.Ytplljicodflagaa.P Go.Proofs.YtplljicodflagaaW.PrintWords Go.Proofs.YtplljicodflagaaW.PrintMore
theorem refweight_ev (l : List Ac) (p : Int) (hl : l.length ≤ 1000000) : Ev (fun k => petrinetref09_Weight.f k l p) (weightS l p) :=
  Ev_loop (L := fun k i => petrinetref09_Weight.l0 k l p (i : Int)) 1 _ (fun k i hi => by
    simp only [petrinetref09_Weight.l0]
    rw [if_pos (by omega), if_pos (by omega), rdA, wrap_up hi (by omega)]
    by_cases c : (l.getD i zA).f0 = p
    · rw [if_pos c, if_pos c]; rfl
    · rw [if_neg c, if_neg c]; rfl) (Ev.one (fun k => by simp only [petrinetref09_Weight.l0]; rw [if_neg (by omega)]))
end Go.Proofs.Ytplljicodflagaa.Pl
/- Whether a net is plain, ordinary: the reference's texts. -/
namespace Go.Proofs.Ytplljicodflagaa.Pl
open Go.RowKit Go.Proofs.Ytplljicodflagaa.P Go.Proofs.YtplljicodflagaaW.PrintWords Go.Proofs.YtplljicodflagaaW.PrintMore

theorem refplain_ev (nm : ByteArray) {ps : List Pla} {ts : List Tra} (hp : ps.length ≤ 1000000) (ht : ts.length ≤ 1000000) (hT : Thin ts) : Ev (fun k => petrinetref09_Plain.f k nm ps ts) (plainS (validS nm ps ts) ps ts) := by
  rw [plain_swap]
  unfold petrinetref09_Plain.f
  refine Ev.bind (refvalid_ev nm hT) ?_
  by_cases hv : validS nm ps ts = true
  · simp only [hv, ↓reduceIte]
    have h1 := Ev_loop (L := fun k i => petrinetref09_Plain.l1 k (i : Int) nm ps ts) (n := ts.length) 1 (fun i => if ((ts.getD i zT).f3.length : Int) > 0 ∨ (ts.getD i zT).f4 ≠ 0 then some false else none) (e := true)
      (fun k i hi => by
        simp only [petrinetref09_Plain.l1]
        rw [if_pos (by omega), if_pos (by omega), rdT, wrap_up hi (by omega)]
        by_cases c1 : ((ts.getD i zT).f3.length : Int) > 0
        · rw [if_pos c1, if_pos (Or.inl c1)]; rfl
        · rw [if_neg c1]
          by_cases c2 : (ts.getD i zT).f4 = 0
          · rw [if_pos c2, if_neg (fun h => h.elim c1 (fun h => h c2))]; rfl
          · rw [if_neg c2, if_pos (Or.inr c2)]; rfl)
      (Ev.one (fun k => by simp only [petrinetref09_Plain.l1]; rw [if_neg (by omega)]))
    exact Ev_loop (L := fun k i => petrinetref09_Plain.l0 k (i : Int) nm ps ts) (n := ps.length) 1 (fun i => if (ps.getD i zP).f2 ≠ 0 then some false else none) (e := plainT ts true)
      (fun k i hi => by
        simp only [petrinetref09_Plain.l0]
        rw [if_pos (by omega), if_pos (by omega), rdP, wrap_up hi (by omega)]
        by_cases c : (ps.getD i zP).f2 = 0
        · rw [if_pos c, if_neg (by simpa using c)]; rfl
        · rw [if_neg c, if_pos c]; rfl)
      (Ev.step (f := fun k => petrinetref09_Plain.l1 k ((0 : Nat) : Int) nm ps ts) (fun k => by simp only [petrinetref09_Plain.l0]; rw [if_neg (by omega)]; rfl) h1)
  · simp only [hv]; exact Ev.some _
theorem refones_ev (l : List Ac) (hl : l.length ≤ 1000000) : Ev (fun k => petrinetref09_ones.f k l) (l.all fun a => a.f1 == 1) := by
  have h := Ev_loop (L := fun k i => petrinetref09_ones.l0 k l (i : Int)) (n := l.length) 1 (fun i => if (!((l.getD i zA).f1 == 1)) = true then some false else none) (e := true)
    (fun k i hi => by
      simp only [petrinetref09_ones.l0]
      rw [if_pos (by omega), if_pos (by omega), rdA, wrap_up hi (by omega)]
      by_cases c : (l.getD i zA).f1 = 1
      · rw [if_pos c, if_neg (by rw [c]; decide)]; rfl
      · rw [if_neg c, if_pos (by rw [beq_eq_false_iff_ne.2 c]; rfl)]; rfl)
    (Ev.one (fun k => by simp only [petrinetref09_ones.l0]; rw [if_neg (by omega)]))
  have e : first (fun i => if (!((l.getD i zA).f1 == 1)) = true then some false else none) true l.length = l.all fun a => a.f1 == 1 := by
    rw [Bool.eq_iff_iff, first_bool (fun i => !((l.getD i zA).f1 == 1)), List.all_eq_true]
    constructor
    · intro h x hx
      obtain ⟨i, hi, rfl⟩ := List.getElem_of_mem hx
      have := h i hi
      rw [List.getD_eq_getElem?_getD, List.getElem?_eq_getElem hi] at this
      simpa using this
    · intro h i hi
      rw [h _ (getD_mem l zA hi)]
      rfl
  rw [← e]
  exact h
theorem refordinary_ev (nm : ByteArray) {ps : List Pla} {ts : List Tra} (ht : ts.length ≤ 1000000) (hT : Thin ts) : Ev (fun k => petrinetref09_Ordinary.f k nm ps ts) (ordinaryS (validS nm ps ts) ts) := by
  unfold petrinetref09_Ordinary.f ordinaryS
  refine Ev.bind (refvalid_ev nm hT) ?_
  by_cases hv : validS nm ps ts = true
  · simp only [hv, ↓reduceIte]
    have hb : ∀ i, i < ts.length → ∀ r, Ev (fun k => petrinetref09_Ordinary.l0 k ((i + 1 : Nat) : Int) nm ps ts) r → Ev (fun k => petrinetref09_Ordinary.l0 k (i : Int) nm ps ts) (if (((ts.getD i zT).f1.all fun a => a.f1 == 1) && ((ts.getD i zT).f2.all fun a => a.f1 == 1)) = true then r else false) := fun i hi r hr => by
      refine Ev.step (f := fun k => (petrinetref09_ones.f k (ts.getD i zT).f1).bind fun a => if a = true then ((petrinetref09_ones.f k (ts.getD i zT).f2).bind fun b => if b = true then petrinetref09_Ordinary.l0 k ((i + 1 : Nat) : Int) nm ps ts else some false) else some false) (fun k => by
        simp only [petrinetref09_Ordinary.l0]
        rw [if_pos (by omega), if_pos (by omega), rdT, wrap_up hi (by omega)]) (Ev.bind (refones_ev _ (hT.at hi).2.1) ?_)
      cases h1 : ((ts.getD i zT).f1.all fun a => a.f1 == 1) with
      | false => simp only [Bool.false_and, Bool.false_eq_true, ↓reduceIte]; exact Ev.some _
      | true =>
        simp only [Bool.true_and, ↓reduceIte]
        refine Ev.bind (refones_ev _ (hT.at hi).2.2.1) ?_
        cases h2 : ((ts.getD i zT).f2.all fun a => a.f1 == 1) with
        | false => simp only [Bool.false_eq_true, ↓reduceIte]; exact Ev.some _
        | true => simp only [↓reduceIte]; exact hr
    have h := Ev_first (L := fun k i => petrinetref09_Ordinary.l0 k (i : Int) nm ps ts) (n := ts.length) (fun i => if (!(((ts.getD i zT).f1.all fun a => a.f1 == 1) && ((ts.getD i zT).f2.all fun a => a.f1 == 1))) = true then some false else none) (e := true)
      (fun i hi hp r hr => by
        have := hb i hi r hr
        cases hc : (((ts.getD i zT).f1.all fun a => a.f1 == 1) && ((ts.getD i zT).f2.all fun a => a.f1 == 1)) with
        | true => rw [hc, if_pos rfl] at this; exact this
        | false => rw [hc] at hp; cases hp)
      (fun i r hi hp => by
        cases hc : (((ts.getD i zT).f1.all fun a => a.f1 == 1) && ((ts.getD i zT).f2.all fun a => a.f1 == 1)) with
        | true => rw [hc] at hp; cases hp
        | false =>
          rw [hc] at hp
          obtain rfl := Option.some.inj hp
          refine Ev.step (f := fun k => (petrinetref09_ones.f k (ts.getD i zT).f1).bind fun a => if a = true then ((petrinetref09_ones.f k (ts.getD i zT).f2).bind fun b => if b = true then petrinetref09_Ordinary.l0 k ((i + 1 : Nat) : Int) nm ps ts else some false) else some false) (fun k => by
            simp only [petrinetref09_Ordinary.l0]
            rw [if_pos (by omega), if_pos (by omega), rdT, wrap_up hi (by omega)]) (Ev.bind (refones_ev _ (hT.at hi).2.1) ?_)
          cases h1 : ((ts.getD i zT).f1.all fun a => a.f1 == 1) with
          | false => simp only [Bool.false_eq_true, ↓reduceIte]; exact Ev.some _
          | true =>
            simp only [↓reduceIte]
            refine Ev.bind (refones_ev _ (hT.at hi).2.2.1) ?_
            rw [h1, Bool.true_and] at hc
            simp only [hc, Bool.false_eq_true, ↓reduceIte]; exact Ev.some _)
      (Ev.one (fun k => by simp only [petrinetref09_Ordinary.l0]; rw [if_neg (by omega)]))
    have e : first (fun i => if (!(((ts.getD i zT).f1.all fun a => a.f1 == 1) && ((ts.getD i zT).f2.all fun a => a.f1 == 1))) = true then some false else none) true ts.length = ts.all fun t => (t.f1.all fun a => a.f1 == 1) && (t.f2.all fun a => a.f1 == 1) := by
      rw [Bool.eq_iff_iff, first_bool (fun i => !(((ts.getD i zT).f1.all fun a => a.f1 == 1) && ((ts.getD i zT).f2.all fun a => a.f1 == 1))), List.all_eq_true]
      constructor
      · intro h x hx
        obtain ⟨i, hi, rfl⟩ := List.getElem_of_mem hx
        have := h i hi
        rw [List.getD_eq_getElem?_getD, List.getElem?_eq_getElem hi] at this
        rw [Bool.not_eq_false'] at this; exact this
      · intro h i hi
        rw [h _ (getD_mem ts zT hi)]
        rfl
    rw [e] at h
    cases hq : (ts.all fun t => (t.f1.all fun a => a.f1 == 1) && (t.f2.all fun a => a.f1 == 1)) with
    | true => rw [hq] at h; rw [if_pos rfl]; exact h
    | false => rw [hq] at h; rw [if_neg Bool.false_ne_true]; exact h
  · simp only [hv, ite_self]; exact Ev.some _
end Go.Proofs.Ytplljicodflagaa.Pl
/- The reference's targets of a list of arcs. -/
namespace Go.Proofs.Ytplljicodflagaa.Pl
open Go.RowKit Go.Proofs.Ytplljicodflagaa.P Go.Proofs.YtplljicodflagaaW.PrintWords Go.Proofs.YtplljicodflagaaW.PrintMore

end Go.Proofs.Ytplljicodflagaa.Pl
/- Producers and consumers, the reference's. -/
namespace Go.Proofs.Ytplljicodflagaa.Pl
open Go.RowKit Go.Proofs.Ytplljicodflagaa.P Go.Proofs.YtplljicodflagaaW.PrintWords Go.Proofs.YtplljicodflagaaW.PrintMore

theorem refproducers_ev (nm : ByteArray) {ps : List Pla} {ts : List Tra} (p : Int) (ht : ts.length ≤ 1000000) (hT : Thin ts) : Ev (fun k => petrinetref09_Producers.f k nm ps ts p) (producersS (validS nm ps ts) ts p) := by
  unfold producersS
  by_cases hv : validS nm ps ts = true
  · rw [if_pos hv]
    exact Ev_up (L := fun k i => petrinetref09_Producers.l0 k p (((List.range i).filter fun t : Nat => decide (weightS (ts.getD t zT).f2 p > 0)).map (fun t : Nat => (t : Int))) (i : Int) nm ps ts) (n := ts.length)
      (fun i hi hr => by
        generalize hq : (((List.range i).filter fun t : Nat => decide (weightS (ts.getD t zT).f2 p > 0)).map (fun t : Nat => (t : Int))) = acc
        have hl := filter_len (fun t : Nat => decide (weightS (ts.getD t zT).f2 p > 0)) i
        rw [hq] at hl
        rw [filter_next, hq] at hr
        refine Ev.step (f := fun k => (petrinetref09_Valid.f k nm ps ts).bind fun b => petrinetref09_Producers.j1 k p acc (i : Int) b nm ps ts) (fun k => by simp only [petrinetref09_Producers.l0]; rw [if_pos (by omega)]) (Ev.bind (refvalid_ev nm hT) ?_)
        rw [hv]
        refine Ev.step (f := fun k => (petrinetref09_Weight.f k (ts.getD i zT).f2 p).bind fun t => if t > 0 then petrinetref09_Producers.l0 k p (acc ++ [(i : Int)]) ((i + 1 : Nat) : Int) nm ps ts else petrinetref09_Producers.l0 k p acc ((i + 1 : Nat) : Int) nm ps ts) (fun k => by
          simp only [petrinetref09_Producers.j1]
          rw [if_pos trivial, if_pos (by omega), if_pos (by omega), if_pos (by omega), rdT, wrap_up hi (by omega)]) (Ev.bind (refweight_ev _ p (hT.at hi).2.2.1) ?_)
        by_cases c : weightS (ts.getD i zT).f2 p > 0
        · simp only [c, decide_true, ↓reduceIte] at hr ⊢; exact hr
        · simp only [c, decide_false, ↓reduceIte, Bool.false_eq_true] at hr ⊢; exact hr)
      (Ev.stepn 2 (f := fun _ => some _) (fun k => by simp only [petrinetref09_Producers.l0]; rw [if_neg (by omega)]; simp only [petrinetref09_Producers.j1]; rw [if_neg Bool.false_ne_true]) (Ev.some _))
  · rw [if_neg hv]
    have hf := Bool.eq_false_iff.2 hv
    unfold petrinetref09_Producers.f
    by_cases h0 : 0 < ts.length
    · refine Ev.step (f := fun k => (petrinetref09_Valid.f k nm ps ts).bind fun b => petrinetref09_Producers.j1 k p [] 0 b nm ps ts) (fun k => by simp only [petrinetref09_Producers.l0]; rw [if_pos (by omega)]) (Ev.bind (refvalid_ev nm hT) ?_)
      rw [hf]
      exact Ev.one (fun k => by simp only [petrinetref09_Producers.j1]; rw [if_neg Bool.false_ne_true])
    · exact Ev.stepn 2 (f := fun _ => some _) (fun k => by simp only [petrinetref09_Producers.l0]; rw [if_neg (by omega)]; simp only [petrinetref09_Producers.j1]; rw [if_neg Bool.false_ne_true]) (Ev.some _)
theorem refconsumers_ev (nm : ByteArray) {ps : List Pla} {ts : List Tra} (p : Int) (ht : ts.length ≤ 1000000) (hT : Thin ts) : Ev (fun k => petrinetref09_Consumers.f k nm ps ts p) (consumersS (validS nm ps ts) ts p) := by
  unfold consumersS
  by_cases hv : validS nm ps ts = true
  · rw [if_pos hv]
    exact Ev_up (L := fun k i => petrinetref09_Consumers.l0 k p (((List.range i).filter fun t : Nat => decide (weightS (ts.getD t zT).f1 p > 0)).map (fun t : Nat => (t : Int))) (i : Int) nm ps ts) (n := ts.length)
      (fun i hi hr => by
        generalize hq : (((List.range i).filter fun t : Nat => decide (weightS (ts.getD t zT).f1 p > 0)).map (fun t : Nat => (t : Int))) = acc
        have hl := filter_len (fun t : Nat => decide (weightS (ts.getD t zT).f1 p > 0)) i
        rw [hq] at hl
        rw [filter_next, hq] at hr
        refine Ev.step (f := fun k => (petrinetref09_Valid.f k nm ps ts).bind fun b => petrinetref09_Consumers.j1 k p acc (i : Int) b nm ps ts) (fun k => by simp only [petrinetref09_Consumers.l0]; rw [if_pos (by omega)]) (Ev.bind (refvalid_ev nm hT) ?_)
        rw [hv]
        refine Ev.step (f := fun k => (petrinetref09_Weight.f k (ts.getD i zT).f1 p).bind fun t => if t > 0 then petrinetref09_Consumers.l0 k p (acc ++ [(i : Int)]) ((i + 1 : Nat) : Int) nm ps ts else petrinetref09_Consumers.l0 k p acc ((i + 1 : Nat) : Int) nm ps ts) (fun k => by
          simp only [petrinetref09_Consumers.j1]
          rw [if_pos trivial, if_pos (by omega), if_pos (by omega), if_pos (by omega), rdT, wrap_up hi (by omega)]) (Ev.bind (refweight_ev _ p (hT.at hi).2.1) ?_)
        by_cases c : weightS (ts.getD i zT).f1 p > 0
        · simp only [c, decide_true, ↓reduceIte] at hr ⊢; exact hr
        · simp only [c, decide_false, ↓reduceIte, Bool.false_eq_true] at hr ⊢; exact hr)
      (Ev.stepn 2 (f := fun _ => some _) (fun k => by simp only [petrinetref09_Consumers.l0]; rw [if_neg (by omega)]; simp only [petrinetref09_Consumers.j1]; rw [if_neg Bool.false_ne_true]) (Ev.some _))
  · rw [if_neg hv]
    have hf := Bool.eq_false_iff.2 hv
    unfold petrinetref09_Consumers.f
    by_cases h0 : 0 < ts.length
    · refine Ev.step (f := fun k => (petrinetref09_Valid.f k nm ps ts).bind fun b => petrinetref09_Consumers.j1 k p [] 0 b nm ps ts) (fun k => by simp only [petrinetref09_Consumers.l0]; rw [if_pos (by omega)]) (Ev.bind (refvalid_ev nm hT) ?_)
      rw [hf]
      exact Ev.one (fun k => by simp only [petrinetref09_Consumers.j1]; rw [if_neg Bool.false_ne_true])
    · exact Ev.stepn 2 (f := fun _ => some _) (fun k => by simp only [petrinetref09_Consumers.l0]; rw [if_neg (by omega)]; simp only [petrinetref09_Consumers.j1]; rw [if_neg Bool.false_ne_true]) (Ev.some _)
end Go.Proofs.Ytplljicodflagaa.Pl
/- Plain lemmas: loops that end early, lists told by their places. -/
namespace Go.Proofs.Ytplljicodflagaa.Pl
open Go.RowKit Go.Proofs.YtplljicodflagaaW.PrintWords Go.Proofs.YtplljicodflagaaW.PrintMore

theorem dec_t {p : Prop} {i : Decidable p} (h : p) : @decide p i = true := decide_eq_true h
theorem dec_f {p : Prop} {i : Decidable p} (h : ¬ p) : @decide p i = false := decide_eq_false h
/-- A loop that counts up to n and answers a at the first place with c. -/
theorem Ev_ex {ρ : Type} {L : Nat → Nat → Option ρ} {n : Nat} (c : Nat → Prop) {a e r : ρ}
    (yes : ∀ i, i < n → c i → Ev (fun k => L k i) a)
    (no : ∀ i, i < n → ¬ c i → ∀ r, Ev (fun k => L k (i + 1)) r → Ev (fun k => L k i) r)
    (fin : (∀ j, j < n → ¬ c j) → Ev (fun k => L k n) e) (ha : (∃ j, j < n ∧ c j) → r = a) (he : (∀ j, j < n → ¬ c j) → r = e) : Ev (fun k => L k 0) r := by
  have go : ∀ d i, i + d = n → (∀ j, j < i → ¬ c j) → Ev (fun k => L k i) r := by
    intro d
    induction d with
    | zero =>
      intro i hi hb
      obtain rfl : i = n := by omega
      rw [he hb]
      exact fin hb
    | succ d ih =>
      intro i hi hb
      by_cases h : c i
      · rw [ha ⟨i, by omega, h⟩]
        exact yes i (by omega) h
      · exact no i (by omega) h _ (ih (i + 1) (by omega) (fun j hj => by
          by_cases e : j = i
          · rw [e]; exact h
          · exact hb j (by omega)))
  exact go n 0 (by omega) (fun j h => by omega)

end Go.Proofs.Ytplljicodflagaa.Pl
/- The classes of a net: what they are; state machines, marked graphs, purity by both texts. -/
namespace Go.Proofs.Ytplljicodflagaa.Pl
set_option linter.unusedVariables false
open Go.RowKit Go.Proofs.Ytplljicodflagaa.P Go.Proofs.YtplljicodflagaaW.PrintWords Go.Proofs.YtplljicodflagaaW.PrintMore

def basicS (v : Bool) (ps : List Pla) (ts : List Tra) : Bool := if plainS v ps ts = true then ordinaryS v ts else false
theorem plain_v {v : Bool} {ps : List Pla} {ts : List Tra} (h : plainS v ps ts = true) : v = true := by
  rw [plain_swap] at h
  by_cases hv : v = true
  · exact hv
  · rw [if_neg hv] at h; cases h
theorem basic_v {v : Bool} {ps : List Pla} {ts : List Tra} (h : basicS v ps ts = true) : v = true := by
  unfold basicS at h
  by_cases hp : plainS v ps ts = true
  · exact plain_v hp
  · rw [if_neg hp] at h; cases h
section
variable {nm : ByteArray} {ps : List Pla} {ts : List Tra}
theorem simple_ev (hp : ps.length ≤ 1000000) (ht : ts.length ≤ 1000000) (hT : Thin ts) : Ev (fun k => netclass_simple.f k nm ps ts) (basicS (validS nm ps ts) ps ts) := by
  unfold netclass_simple.f basicS
  refine Ev.bind (plain_ev nm hp ht hT) ?_
  by_cases h : plainS (validS nm ps ts) ps ts = true
  · simp only [h, ↓reduceIte]; exact ordinary_ev nm hT
  · simp only [h]; exact Ev.some _
theorem refbasic_ev (hp : ps.length ≤ 1000000) (ht : ts.length ≤ 1000000) (hT : Thin ts) : Ev (fun k => petrinetref13_basic.f k nm ps ts) (basicS (validS nm ps ts) ps ts) := by
  unfold petrinetref13_basic.f
  refine Ev.bind (refvalid_ev nm hT) ?_
  cases hv : validS nm ps ts with
  | false =>
    have e : basicS false ps ts = false := Bool.eq_false_iff.2 fun h => by cases basic_v h
    rw [e]
    exact Ev.some _
  | true =>
    simp only [↓reduceIte]
    have h1 := refplain_ev nm hp ht hT
    have h2 := refordinary_ev (ps := ps) nm ht hT
    rw [hv] at h1 h2
    unfold basicS
    refine Ev.bind h1 ?_
    by_cases h : plainS true ps ts = true
    · simp only [h, ↓reduceIte]; exact Ev.bind h2 (Ev.some _)
    · simp only [h]; exact Ev.some _
/-! ### state machines -/
def stmP (ts : List Tra) : Prop := ∀ i, i < ts.length → (ts.getD i zT).f1.length = 1 ∧ (ts.getD i zT).f2.length = 1
open Classical in
noncomputable def stmS (b : Bool) (ts : List Tra) : Bool := decide (b = true ∧ stmP ts)
theorem sm_ev (hp : ps.length ≤ 1000000) (ht : ts.length ≤ 1000000) (hT : Thin ts) : Ev (fun k => netclass_StateMachine.f k nm ps ts) (stmS (basicS (validS nm ps ts) ps ts) ts) := by
  unfold netclass_StateMachine.f
  refine Ev.bind (simple_ev hp ht hT) ?_
  cases hb : basicS (validS nm ps ts) ps ts with
  | false => rw [show stmS false ts = false from dec_f fun h => by cases h.1]; exact Ev.some _
  | true =>
    simp only [↓reduceIte]
    refine Ev_ex (L := fun k i => netclass_StateMachine.l0 k ts (ts.length : Int) (i : Int)) (n := ts.length) (fun i => ¬ ((ts.getD i zT).f1.length = 1 ∧ (ts.getD i zT).f2.length = 1)) (a := false) (e := true) (fun i hi hc => Ev.one fun k => ?_) (fun i hi hc r hr => Ev.step (fun k => ?_) hr) (fun _ => Ev.one fun k => ?_) (fun ⟨j, hj, hn⟩ => dec_f fun h => hn (h.2 j hj)) (fun h => dec_t ⟨rfl, fun i hi => Classical.not_not.1 (h i hi)⟩)
    · simp only [netclass_StateMachine.l0]
      rw [if_pos (by omega), if_pos (by omega), if_pos (by omega), rdT]
      by_cases c1 : (ts.getD i zT).f1.length = 1
      · rw [if_pos (by omega), if_neg (by omega)]
      · rw [if_neg (by omega)]
    · have hc := Classical.not_not.1 hc
      simp only [netclass_StateMachine.l0]
      rw [if_pos (by omega), if_pos (by omega), if_pos (by omega), rdT, if_pos (by omega), if_pos (by omega), wrap_up hi (by omega)]
    · simp only [netclass_StateMachine.l0]
      rw [if_neg (by omega)]
theorem refsm_ev (hp : ps.length ≤ 1000000) (ht : ts.length ≤ 1000000) (hT : Thin ts) : Ev (fun k => petrinetref13_StateMachine.f k nm ps ts) (stmS (basicS (validS nm ps ts) ps ts) ts) := by
  unfold petrinetref13_StateMachine.f
  refine Ev_ex (L := fun k i => petrinetref13_StateMachine.l0 k (i : Int) nm ps ts) (n := ts.length) (fun i => ¬ ((ts.getD i zT).f1.length = 1 ∧ (ts.getD i zT).f2.length = 1)) (a := false) (e := basicS (validS nm ps ts) ps ts) (fun i hi hc => Ev.one fun k => ?_) (fun i hi hc r hr => Ev.step (fun k => ?_) hr) (fun _ => Ev.step (fun k => ?_) (Ev.bind (refbasic_ev hp ht hT) (Ev.some _))) (fun ⟨j, hj, hn⟩ => dec_f fun h => hn (h.2 j hj)) (fun h => ?_)
  · simp only [petrinetref13_StateMachine.l0]
    rw [if_pos (by omega), if_pos (by omega), rdT]
    by_cases c1 : (ts.getD i zT).f1.length = 1
    · rw [if_pos (by omega), if_neg (by omega)]
    · rw [if_neg (by omega)]
  · have hc := Classical.not_not.1 hc
    simp only [petrinetref13_StateMachine.l0]
    rw [if_pos (by omega), if_pos (by omega), rdT, if_pos (by omega), if_pos (by omega), wrap_up hi (by omega)]
  · simp only [petrinetref13_StateMachine.l0]
    rw [if_neg (by omega)]
  · cases hb : basicS (validS nm ps ts) ps ts with
    | false => exact dec_f fun h => by cases h.1
    | true => exact dec_t ⟨rfl, fun i hi => Classical.not_not.1 (h i hi)⟩
/-! ### marked graphs -/
def mgP (ps : List Pla) (ts : List Tra) : Prop := ∀ p, p < ps.length → (producersS true ts (p : Int)).length = 1 ∧ (consumersS true ts (p : Int)).length = 1
open Classical in
noncomputable def mgS (b : Bool) (ps : List Pla) (ts : List Tra) : Bool := decide (b = true ∧ mgP ps ts)
theorem mg_ev (hp : ps.length ≤ 1000000) (ht : ts.length ≤ 1000000) (hT : Thin ts) : Ev (fun k => netclass_MarkedGraph.f k nm ps ts) (mgS (basicS (validS nm ps ts) ps ts) ps ts) := by
  unfold netclass_MarkedGraph.f
  refine Ev.bind (simple_ev hp ht hT) ?_
  cases hb : basicS (validS nm ps ts) ps ts with
  | false => rw [show mgS false ps ts = false from dec_f fun h => by cases h.1]; exact Ev.some _
  | true =>
    simp only [↓reduceIte]
    have hv := basic_v hb
    refine Ev_ex (L := fun k i => netclass_MarkedGraph.l0 k (ps.length : Int) (i : Int) nm ps ts) (n := ps.length) (fun p => ¬ ((producersS true ts (p : Int)).length = 1 ∧ (consumersS true ts (p : Int)).length = 1)) (a := false) (e := true) (fun i hi hc => ?_) (fun i hi hc r hr => ?_) (fun _ => Ev.one fun k => ?_) (fun ⟨j, hj, hn⟩ => dec_f fun h => hn (h.2 j hj)) (fun h => dec_t ⟨rfl, fun i hi => Classical.not_not.1 (h i hi)⟩)
    · refine Ev.step (fun k => by simp only [netclass_MarkedGraph.l0]; rw [if_pos (by omega)]) ?_
      refine Ev.bind (producers_ev nm (i : Int) ht hT) ?_
      rw [hv]
      by_cases c1 : (producersS true ts (i : Int)).length = 1
      · refine Ev.congr (fun k => if_pos (by omega)) ?_
        refine Ev.bind (consumers_ev nm (i : Int) ht hT) ?_
        rw [hv]
        exact Ev.congr (fun k => if_neg (by omega)) (Ev.some _)
      · exact Ev.congr (fun k => if_neg (by omega)) (Ev.some _)
    · have hc := Classical.not_not.1 hc
      refine Ev.step (fun k => by simp only [netclass_MarkedGraph.l0]; rw [if_pos (by omega), wrap_up hi (by omega)]) ?_
      refine Ev.bind (producers_ev nm (i : Int) ht hT) ?_
      rw [hv]
      refine Ev.congr (fun k => if_pos (by omega)) ?_
      refine Ev.bind (consumers_ev nm (i : Int) ht hT) ?_
      rw [hv]
      exact Ev.congr (fun k => if_pos (by omega)) hr
    · simp only [netclass_MarkedGraph.l0]
      rw [if_neg (by omega)]
theorem refmg_ev (hp : ps.length ≤ 1000000) (ht : ts.length ≤ 1000000) (hT : Thin ts) : Ev (fun k => petrinetref13_MarkedGraph.f k nm ps ts) (mgS (basicS (validS nm ps ts) ps ts) ps ts) := by
  unfold petrinetref13_MarkedGraph.f
  have hb' := refbasic_ev (nm := nm) hp ht hT
  cases hb : basicS (validS nm ps ts) ps ts with
  | false =>
    rw [show mgS false ps ts = false from dec_f fun h => by cases h.1]
    rw [hb] at hb'
    have hj : Ev (fun k => petrinetref13_MarkedGraph.j1 k 0 false nm ps ts) false := Ev.step (fun k => by simp only [petrinetref13_MarkedGraph.j1]; rw [if_neg Bool.false_ne_true]) (Ev.bind hb' (Ev.some _))
    by_cases c : (0 : Int) < (ps.length : Int)
    · refine Ev.step (fun k => by simp only [petrinetref13_MarkedGraph.l0]; rw [if_pos c]) (Ev.bind hb' hj)
    · refine Ev.step (fun k => by simp only [petrinetref13_MarkedGraph.l0]; rw [if_neg c]) hj
  | true =>
    rw [hb] at hb'
    have hv := basic_v hb
    refine Ev_ex (L := fun k i => petrinetref13_MarkedGraph.l0 k (i : Int) nm ps ts) (n := ps.length) (fun p => ¬ ((producersS true ts (p : Int)).length = 1 ∧ (consumersS true ts (p : Int)).length = 1)) (a := false) (e := true) (fun i hi hc => ?_) (fun i hi hc r hr => ?_) (fun _ => ?_) (fun ⟨j, hj, hn⟩ => dec_f fun h => hn (h.2 j hj)) (fun h => dec_t ⟨rfl, fun i hi => Classical.not_not.1 (h i hi)⟩)
    · refine Ev.step (fun k => by simp only [petrinetref13_MarkedGraph.l0]; rw [if_pos (by omega)]) ?_
      refine Ev.bind hb' ?_
      refine Ev.step (fun k => by simp only [petrinetref13_MarkedGraph.j1]; rw [if_pos trivial]) ?_
      refine Ev.bind (refproducers_ev nm (i : Int) ht hT) ?_
      rw [hv]
      by_cases c1 : (producersS true ts (i : Int)).length = 1
      · refine Ev.congr (fun k => if_pos (by omega)) ?_
        refine Ev.bind (refconsumers_ev nm (i : Int) ht hT) ?_
        rw [hv]
        exact Ev.congr (fun k => if_neg (by omega)) (Ev.some _)
      · exact Ev.congr (fun k => if_neg (by omega)) (Ev.some _)
    · have hc := Classical.not_not.1 hc
      refine Ev.step (fun k => by simp only [petrinetref13_MarkedGraph.l0]; rw [if_pos (by omega)]) ?_
      refine Ev.bind hb' ?_
      refine Ev.step (fun k => by simp only [petrinetref13_MarkedGraph.j1]; rw [if_pos trivial, wrap_up hi (by omega)]) ?_
      refine Ev.bind (refproducers_ev nm (i : Int) ht hT) ?_
      rw [hv]
      refine Ev.congr (fun k => if_pos (by omega)) ?_
      refine Ev.bind (refconsumers_ev nm (i : Int) ht hT) ?_
      rw [hv]
      exact Ev.congr (fun k => if_pos (by omega)) hr
    · refine Ev.step (fun k => by simp only [petrinetref13_MarkedGraph.l0]; rw [if_neg (by omega)]) ?_
      exact Ev.step (fun k => by simp only [petrinetref13_MarkedGraph.j1]; rw [if_neg Bool.false_ne_true]) (Ev.bind hb' (Ev.some _))
end
end Go.Proofs.Ytplljicodflagaa.Pl
/- What a valid net is. -/
namespace Go.Proofs.Ytplljicodflagaa.Pl
open Go.RowKit Go.Proofs.Ytplljicodflagaa.P Go.Proofs.YtplljicodflagaaW.PrintWords Go.Proofs.YtplljicodflagaaW.PrintMore

structure ValidN (nm : ByteArray) (ps : List Pla) (ts : List Tra) : Prop where
  n : nameB nm = true
  p0 : 1 ≤ ps.length
  p : ps.length ≤ 24
  t : ts.length ≤ 24
  pl : ∀ i, i < ps.length → plR ps i = 0
  tr : ∀ i, i < ts.length → trR ps ts i = 0
theorem validS_iff {nm : ByteArray} {ps : List Pla} {ts : List Tra} : validS nm ps ts = true ↔ ValidN nm ps ts := by
  unfold validS checkS
  constructor
  · intro h
    by_cases h1 : nameB nm = true
    · rw [if_pos h1] at h
      by_cases h2 : (ps.length : Int) < 1 ∨ (24 : Int) < (ps.length : Int) ∨ (24 : Int) < (ts.length : Int)
      · rw [if_pos h2] at h; simp at h
      · rw [if_neg h2] at h
        rcases first_cases (pF ps) (first (tF ps ts) (0, 0) ts.length) ps.length with ⟨a1, a2⟩ | ⟨j, a1, a2, _⟩
        · rw [a1] at h
          rcases first_cases (tF ps ts) ((0 : Int), (0 : Int)) ts.length with ⟨b1, b2⟩ | ⟨j, b1, b2, _⟩
          · exact ⟨h1, by omega, by omega, by omega, fun i hi => of_ite_none (a2 i hi), fun i hi => of_ite_none (b2 i hi)⟩
          · obtain ⟨c1, c2⟩ := of_ite_some b2
            rw [← c2] at h
            exact absurd (beq_iff_eq.1 h) c1
        · obtain ⟨c1, c2⟩ := of_ite_some a2
          rw [← c2] at h
          exact absurd (beq_iff_eq.1 h) c1
    · rw [if_neg h1] at h; simp at h
  · rintro ⟨h1, h2, h3, h4, h5, h6⟩
    rw [if_pos h1, if_neg (by omega), first_all (fun j hj => by unfold pF; rw [if_pos (h5 j hj)]), first_all (fun j hj => by unfold tF; rw [if_pos (h6 j hj)])]
    rfl
section
variable {nm : ByteArray} {ps : List Pla} {ts : List Tra} (h : ValidN nm ps ts)
include h
theorem ValidN.trName {i : Nat} (hi : i < ts.length) : nmE (ps.map (·.f0) ++ (ts.take i).map (·.f0)) (ts.getD i zT).f0 = 0 ∧ transE (ps.length : Int) (ts.getD i zT) = 0 := by
  have := h.tr i hi
  unfold trR at this
  by_cases c : nmE (ps.map (·.f0) ++ (ts.take i).map (·.f0)) (ts.getD i zT).f0 = 0
  · rw [if_neg (by simpa using c)] at this; exact ⟨c, this⟩
  · rw [if_pos c] at this; exact absurd this c
theorem ValidN.arcs {i : Nat} (hi : i < ts.length) : (0 ≤ (ts.getD i zT).f4 ∧ (ts.getD i zT).f4 ≤ 9) ∧ arcsE (ps.length : Int) (ts.getD i zT).f1 = 0 ∧ arcsE (ps.length : Int) (ts.getD i zT).f2 = 0 ∧ arcsE (ps.length : Int) (ts.getD i zT).f3 = 0 := by
  have := (h.trName hi).2
  unfold transE at this
  by_cases c : (ts.getD i zT).f4 < 0 ∨ (ts.getD i zT).f4 > 9
  · rw [if_pos c] at this; exact absurd this (by decide)
  · rw [if_neg c] at this
    by_cases c1 : arcsE (ps.length : Int) (ts.getD i zT).f1 = 0
    · rw [if_neg (by simpa using c1)] at this
      by_cases c2 : arcsE (ps.length : Int) (ts.getD i zT).f2 = 0
      · rw [if_neg (by simpa using c2)] at this; exact ⟨by omega, c1, c2, this⟩
      · rw [if_pos c2] at this; exact absurd this c2
    · rw [if_pos c1] at this; exact absurd this c1
end
theorem arcE_none {np : Int} {l : List Ac} {i : Nat} (h : arcE np l i = none) : 0 ≤ (l.getD i zA).f0 ∧ (l.getD i zA).f0 < np ∧ (0 < i → (l.getD (i - 1) zA).f0 < (l.getD i zA).f0) ∧ 1 ≤ (l.getD i zA).f1 ∧ (l.getD i zA).f1 ≤ 99 := by
  unfold arcE at h
  by_cases c1 : (l.getD i zA).f0 < 0 ∨ (l.getD i zA).f0 ≥ np
  · rw [if_pos c1] at h; cases h
  · rw [if_neg c1] at h
    by_cases c2 : 0 < i ∧ (l.getD (i - 1) zA).f0 ≥ (l.getD i zA).f0
    · rw [if_pos c2] at h; cases h
    · rw [if_neg c2] at h
      by_cases c3 : (l.getD i zA).f1 < 1 ∨ (l.getD i zA).f1 > 99
      · rw [if_pos c3] at h; cases h
      · exact ⟨by omega, by omega, fun hi => Int.not_le.1 fun hc => c2 ⟨hi, hc⟩, by omega, by omega⟩
theorem arcE_some {np : Int} {l : List Ac} {i : Nat} {r : Int} (h : arcE np l i = some r) : r ≠ 0 := by
  unfold arcE at h
  by_cases c1 : (l.getD i zA).f0 < 0 ∨ (l.getD i zA).f0 ≥ np
  · rw [if_pos c1] at h; cases h; decide
  · rw [if_neg c1] at h
    by_cases c2 : 0 < i ∧ (l.getD (i - 1) zA).f0 ≥ (l.getD i zA).f0
    · rw [if_pos c2] at h; cases h; decide
    · rw [if_neg c2] at h
      by_cases c3 : (l.getD i zA).f1 < 1 ∨ (l.getD i zA).f1 > 99
      · rw [if_pos c3] at h; cases h; decide
      · rw [if_neg c3] at h; cases h
theorem arcsE_zero {np : Int} {l : List Ac} (h : arcsE np l = 0) : ∀ i, i < l.length → 0 ≤ (l.getD i zA).f0 ∧ (l.getD i zA).f0 < np ∧ (0 < i → (l.getD (i - 1) zA).f0 < (l.getD i zA).f0) ∧ 1 ≤ (l.getD i zA).f1 ∧ (l.getD i zA).f1 ≤ 99 := by
  intro i hi
  unfold arcsE at h
  rcases first_cases (arcE np l) 0 l.length with ⟨_, h2⟩ | ⟨j, _, h2, _⟩
  · exact arcE_none (h2 i hi)
  · rw [h] at h2
    exact absurd rfl (arcE_some h2)
/-- The weight of a place in a list without errors: positive exactly for the places of the list. -/
theorem weight_pos {np : Int} {l : List Ac} (h : arcsE np l = 0) (p : Int) : weightS l p > 0 ↔ p ∈ l.map (·.f0) := by
  unfold weightS
  rcases first_cases (fun i => if (l.getD i zA).f0 = p then some (l.getD i zA).f1 else none) 0 l.length with ⟨h1, h2⟩ | ⟨j, h1, h2, _⟩
  · rw [h1]
    constructor
    · intro hh; exact absurd hh (by decide)
    · intro hm
      obtain ⟨a, ha, rfl⟩ := List.mem_map.1 hm
      obtain ⟨i, hi, rfl⟩ := List.getElem_of_mem ha
      have := h2 i hi
      rw [List.getD_eq_getElem?_getD, List.getElem?_eq_getElem hi] at this
      simp at this
  · by_cases c : (l.getD j zA).f0 = p
    · simp only [c, if_true] at h2
      have := arcsE_zero h j h1
      constructor
      · intro _; exact List.mem_map.2 ⟨_, getD_mem l zA h1, c⟩
      · intro _; rw [← Option.some.inj h2]; omega
    · simp only [c, if_false] at h2; cases h2
theorem weight_nn {np : Int} {l : List Ac} (h : arcsE np l = 0) (p : Int) : 0 ≤ weightS l p ∧ weightS l p ≤ 99 := by
  unfold weightS
  rcases first_cases (fun i => if (l.getD i zA).f0 = p then some (l.getD i zA).f1 else none) 0 l.length with ⟨h1, h2⟩ | ⟨j, h1, h2, _⟩
  · rw [h1]; decide
  · by_cases c : (l.getD j zA).f0 = p
    · simp only [c, if_true] at h2
      have := arcsE_zero h j h1
      rw [← Option.some.inj h2]; omega
    · simp only [c, if_false] at h2; cases h2
end Go.Proofs.Ytplljicodflagaa.Pl
/- Free-choice and asymmetric nets, by both texts. -/
namespace Go.Proofs.Ytplljicodflagaa.Pl
set_option linter.unusedVariables false
open Go.RowKit Go.Proofs.Ytplljicodflagaa.P Go.Proofs.YtplljicodflagaaW.PrintWords Go.Proofs.YtplljicodflagaaW.PrintMore

theorem among_ev (l : List Int) (x : Int) (hl : l.length ≤ 1000000) : Ev (fun k => netclass_among.f k l x) (decide (x ∈ l)) := by
  unfold netclass_among.f
  refine Ev_ex (L := fun k i => netclass_among.l0 k x l (l.length : Int) (i : Int)) (n := l.length) (fun i => rd l (i : Int) = x) (a := true) (e := false) (fun i hi hc => Ev.one fun k => ?_) (fun i hi hc r hr => Ev.step (fun k => ?_) hr) (fun _ => Ev.one fun k => ?_) (fun ⟨j, hj, hn⟩ => dec_t (by rw [← hn]; exact rd_mem (by omega) (by omega))) (fun h => dec_f fun hm => ?_)
  · simp only [netclass_among.l0]
    rw [if_pos (by omega), if_pos (by omega), if_pos (by omega), if_pos hc]
  · simp only [netclass_among.l0]
    rw [if_pos (by omega), if_pos (by omega), if_pos (by omega), if_neg hc, wrap_up hi (by omega)]
  · simp only [netclass_among.l0]
    rw [if_neg (by omega)]
  · obtain ⟨i, hi, e⟩ := mem_rd hm
    exact h i hi e
theorem within_ev (a b : List Int) (ha : a.length ≤ 1000000) (hb : b.length ≤ 1000000) : Ev (fun k => netclass_within.f k a b) (decide (∀ x ∈ a, x ∈ b)) := by
  unfold netclass_within.f
  refine Ev_ex (L := fun k i => netclass_within.l0 k b a (a.length : Int) (i : Int)) (n := a.length) (fun i => rd a (i : Int) ∉ b) (a := false) (e := true) (fun i hi hc => ?_) (fun i hi hc r hr => ?_) (fun _ => Ev.one fun k => ?_) (fun ⟨j, hj, hn⟩ => dec_f fun h => hn (h _ (rd_mem (by omega) (by omega)))) (fun h => dec_t fun x hx => ?_)
  · refine Ev.step (fun k => by simp only [netclass_within.l0]; rw [if_pos (by omega), if_pos (by omega), if_pos (by omega)]) ?_
    refine Ev.bind (among_ev b _ hb) ?_
    rw [dec_f hc]
    exact Ev.some _
  · refine Ev.step (fun k => by simp only [netclass_within.l0]; rw [if_pos (by omega), if_pos (by omega), if_pos (by omega), wrap_up hi (by omega)]) ?_
    refine Ev.bind (among_ev b _ hb) ?_
    rw [dec_t (Classical.not_not.1 hc)]
    exact hr
  · simp only [netclass_within.l0]
    rw [if_neg (by omega)]
  · obtain ⟨i, hi, e⟩ := mem_rd hx
    rw [← e]; exact Classical.not_not.1 (h i hi)
theorem meet_ev (a b : List Int) (ha : a.length ≤ 1000000) (hb : b.length ≤ 1000000) : Ev (fun k => netclass_meet.f k a b) (decide (∃ x ∈ a, x ∈ b)) := by
  unfold netclass_meet.f
  refine Ev_ex (L := fun k i => netclass_meet.l0 k b a (a.length : Int) (i : Int)) (n := a.length) (fun i => rd a (i : Int) ∈ b) (a := true) (e := false) (fun i hi hc => ?_) (fun i hi hc r hr => ?_) (fun _ => Ev.one fun k => ?_) (fun ⟨j, hj, hn⟩ => dec_t ⟨_, rd_mem (by omega) (by omega), hn⟩) (fun h => dec_f fun ⟨x, hx, hy⟩ => ?_)
  · refine Ev.step (fun k => by simp only [netclass_meet.l0]; rw [if_pos (by omega), if_pos (by omega), if_pos (by omega)]) ?_
    refine Ev.bind (among_ev b _ hb) ?_
    rw [dec_t hc]
    exact Ev.some _
  · refine Ev.step (fun k => by simp only [netclass_meet.l0]; rw [if_pos (by omega), if_pos (by omega), if_pos (by omega), wrap_up hi (by omega)]) ?_
    refine Ev.bind (among_ev b _ hb) ?_
    rw [dec_f hc]
    exact hr
  · simp only [netclass_meet.l0]
    rw [if_neg (by omega)]
  · obtain ⟨i, hi, e⟩ := mem_rd hx
    exact h i hi (by rw [e]; exact hy)
/-! ### consumers -/
def Cm (ts : List Tra) (p t : Nat) : Prop := weightS (ts.getD t zT).f1 (p : Int) > 0
def meetP (ts : List Tra) (p q : Nat) : Prop := ∃ t, t < ts.length ∧ Cm ts p t ∧ Cm ts q t
def withinP (ts : List Tra) (p q : Nat) : Prop := ∀ t, t < ts.length → Cm ts p t → Cm ts q t
theorem mem_cons {ts : List Tra} {p : Nat} {x : Int} : x ∈ consumersS true ts (p : Int) ↔ ∃ t : Nat, x = (t : Int) ∧ t < ts.length ∧ Cm ts p t := by
  unfold consumersS
  rw [if_pos rfl]
  constructor
  · intro h
    obtain ⟨t, ht, e⟩ := List.mem_map.1 h
    obtain ⟨h1, h2⟩ := List.mem_filter.1 ht
    exact ⟨t, e.symm, List.mem_range.1 h1, by unfold Cm; exact of_decide_eq_true h2⟩
  · rintro ⟨t, rfl, h1, h2⟩
    exact List.mem_map.2 ⟨t, List.mem_filter.2 ⟨List.mem_range.2 h1, decide_eq_true (p := weightS (ts.getD t zT).f1 (p : Int) > 0) h2⟩, rfl⟩
theorem cons_len (ts : List Tra) (p : Int) (ht : ts.length ≤ 1000000) : (consumersS true ts p).length ≤ 1000000 := by
  unfold consumersS; rw [if_pos rfl]; exact Nat.le_trans (filter_len _ _) ht
theorem cons_within {ts : List Tra} {p q : Nat} : (∀ x ∈ consumersS true ts (p : Int), x ∈ consumersS true ts (q : Int)) ↔ withinP ts p q := by
  constructor
  · intro h t ht hc
    obtain ⟨u, e, _, h2⟩ := mem_cons.1 (h _ (mem_cons.2 ⟨t, rfl, ht, hc⟩))
    obtain rfl : t = u := by omega
    exact h2
  · intro h x hx
    obtain ⟨t, rfl, h1, h2⟩ := mem_cons.1 hx
    exact mem_cons.2 ⟨t, rfl, h1, h t h1 h2⟩
theorem cons_meet {ts : List Tra} {p q : Nat} : (∃ x ∈ consumersS true ts (p : Int), x ∈ consumersS true ts (q : Int)) ↔ meetP ts p q := by
  constructor
  · rintro ⟨x, h1, h2⟩
    obtain ⟨t, rfl, a1, a2⟩ := mem_cons.1 h1
    obtain ⟨u, e, _, b2⟩ := mem_cons.1 h2
    obtain rfl : t = u := by omega
    exact ⟨t, a1, a2, b2⟩
  · rintro ⟨t, h1, h2, h3⟩
    exact ⟨_, mem_cons.2 ⟨t, rfl, h1, h2⟩, mem_cons.2 ⟨t, rfl, h1, h3⟩⟩
theorem meet_sym {ts : List Tra} {p q : Nat} (h : meetP ts p q) : meetP ts q p := by
  obtain ⟨t, h1, h2, h3⟩ := h; exact ⟨t, h1, h3, h2⟩
section
variable {nm : ByteArray} {ps : List Pla} {ts : List Tra}
open Classical in
theorem refmeet_ev (p q : Nat) (hT : Thin ts) (ht : ts.length ≤ 1000000) : Ev (fun k => petrinetref13_meet.f k nm ps ts (p : Int) (q : Int)) (decide (meetP ts p q)) := by
  unfold petrinetref13_meet.f
  refine Ev_ex (L := fun k i => petrinetref13_meet.l0 k (p : Int) (q : Int) (i : Int) nm ps ts) (n := ts.length) (fun t => Cm ts p t ∧ Cm ts q t) (a := true) (e := false) (fun i hi hc => ?_) (fun i hi hc r hr => ?_) (fun _ => Ev.one fun k => ?_) (fun ⟨j, hj, h1, h2⟩ => dec_t ⟨j, hj, h1, h2⟩) (fun h => dec_f fun ⟨t, h0, h1, h2⟩ => h t h0 ⟨h1, h2⟩)
  · refine Ev.step (fun k => by simp only [petrinetref13_meet.l0]; rw [if_pos (by omega), if_pos (by omega), rdT]) ?_
    refine Ev.bind (refweight_ev _ _ (hT.at hi).2.1) ?_
    refine Ev.congr (fun k => if_pos hc.1) ?_
    refine Ev.bind (refweight_ev _ _ (hT.at hi).2.1) ?_
    exact Ev.congr (fun k => if_pos hc.2) (Ev.some _)
  · refine Ev.step (fun k => by simp only [petrinetref13_meet.l0]; rw [if_pos (by omega), if_pos (by omega), rdT, wrap_up hi (by omega)]) ?_
    refine Ev.bind (refweight_ev _ _ (hT.at hi).2.1) ?_
    by_cases h1 : Cm ts p i
    · refine Ev.congr (fun k => if_pos h1) ?_
      refine Ev.bind (refweight_ev _ _ (hT.at hi).2.1) ?_
      exact Ev.congr (fun k => if_neg (fun h2 => hc ⟨h1, h2⟩)) hr
    · exact Ev.congr (fun k => if_neg h1) hr
  · simp only [petrinetref13_meet.l0]
    rw [if_neg (by omega)]
open Classical in
theorem refwithin_ev (V : ValidN nm ps ts) (p q : Nat) (hT : Thin ts) (ht : ts.length ≤ 1000000) : Ev (fun k => petrinetref13_within.f k nm ps ts (p : Int) (q : Int)) (decide (withinP ts p q)) := by
  unfold petrinetref13_within.f
  have hz : ∀ i, i < ts.length → (weightS (ts.getD i zT).f1 (q : Int) = 0 ↔ ¬ Cm ts q i) := fun i hi => by
    have := weight_nn (V.arcs hi).2.1 (q : Int)
    unfold Cm; omega
  refine Ev_ex (L := fun k i => petrinetref13_within.l0 k (p : Int) (q : Int) (i : Int) nm ps ts) (n := ts.length) (fun t => Cm ts p t ∧ ¬ Cm ts q t) (a := false) (e := true) (fun i hi hc => ?_) (fun i hi hc r hr => ?_) (fun _ => Ev.one fun k => ?_) (fun ⟨j, hj, h1, h2⟩ => dec_f fun h => h2 (h j hj h1)) (fun h => dec_t fun t h0 h1 => Classical.byContradiction fun h2 => h t h0 ⟨h1, h2⟩)
  · refine Ev.step (fun k => by simp only [petrinetref13_within.l0]; rw [if_pos (by omega), if_pos (by omega), rdT]) ?_
    refine Ev.bind (refweight_ev _ _ (hT.at hi).2.1) ?_
    refine Ev.congr (fun k => if_pos hc.1) ?_
    refine Ev.bind (refweight_ev _ _ (hT.at hi).2.1) ?_
    exact Ev.congr (fun k => if_pos ((hz i hi).2 hc.2)) (Ev.some _)
  · refine Ev.step (fun k => by simp only [petrinetref13_within.l0]; rw [if_pos (by omega), if_pos (by omega), rdT, wrap_up hi (by omega)]) ?_
    refine Ev.bind (refweight_ev _ _ (hT.at hi).2.1) ?_
    by_cases h1 : Cm ts p i
    · refine Ev.congr (fun k => if_pos h1) ?_
      refine Ev.bind (refweight_ev _ _ (hT.at hi).2.1) ?_
      exact Ev.congr (fun k => if_neg (fun h2 => (hz i hi).1 h2 (Classical.byContradiction fun h3 => hc ⟨h1, h3⟩))) hr
    · exact Ev.congr (fun k => if_neg h1) hr
  · simp only [petrinetref13_within.l0]
    rw [if_neg (by omega)]
def freeP (ps : List Pla) (ts : List Tra) : Prop := ∀ p, p < ps.length → ∀ q, q < ps.length → meetP ts p q → withinP ts p q ∧ withinP ts q p
def asymP (ps : List Pla) (ts : List Tra) : Prop := ∀ p, p < ps.length → ∀ q, q < ps.length → meetP ts p q → withinP ts p q ∨ withinP ts q p
open Classical in
noncomputable def freeS (b : Bool) (ps : List Pla) (ts : List Tra) : Bool := decide (b = true ∧ freeP ps ts)
open Classical in
noncomputable def asymS (b : Bool) (ps : List Pla) (ts : List Tra) : Bool := decide (b = true ∧ asymP ps ts)
/-! ### FreeChoice -/
open Classical in
theorem okFreeChoice_ev (p q : Nat) (ht : ts.length ≤ 1000000) : Ev (fun k => netclass_FreeChoice_1.f k (consumersS true ts (p : Int)) (consumersS true ts (q : Int))) (decide (withinP ts p q ∧ withinP ts q p)) := by
  unfold netclass_FreeChoice_1.f
  refine Ev.bind (within_ev _ _ (cons_len _ _ ht) (cons_len _ _ ht)) ?_
  by_cases h : withinP ts p q
  · refine Ev.congr (fun k => if_pos (dec_t (cons_within.2 h))) ?_
    refine Ev.bind (within_ev _ _ (cons_len _ _ ht) (cons_len _ _ ht)) ?_
    by_cases h2 : withinP ts q p
    · rw [dec_t (cons_within.2 h2), show decide (withinP ts p q ∧ withinP ts q p) = true from dec_t ⟨h, h2⟩]; exact Ev.some _
    · rw [dec_f (fun x => h2 (cons_within.1 x)), show decide (withinP ts p q ∧ withinP ts q p) = false from dec_f fun x => h2 x.2]; exact Ev.some _
  · refine Ev.congr (fun k => if_neg (by rw [dec_f (fun x => h (cons_within.1 x))]; exact Bool.false_ne_true)) ?_
    rw [show decide (withinP ts p q ∧ withinP ts q p) = false from dec_f fun x => h x.1]; exact Ev.some _
theorem free_ev (hp : ps.length ≤ 1000000) (ht : ts.length ≤ 1000000) (hT : Thin ts) : Ev (fun k => netclass_FreeChoice.f k nm ps ts) (freeS (basicS (validS nm ps ts) ps ts) ps ts) := by
  unfold netclass_FreeChoice.f netclass_pairs_FreeChoice_1.f
  refine Ev.bind ?_ (Ev.some _)
  refine Ev.bind (simple_ev hp ht hT) ?_
  cases hb : basicS (validS nm ps ts) ps ts with
  | false => rw [show freeS false ps ts = false from dec_f fun h => by cases h.1]; exact Ev.some _
  | true =>
    simp only [↓reduceIte]
    have hv := basic_v hb
    have inner : ∀ p, p < ps.length → ∀ r, ((∃ q, q < ps.length ∧ (meetP ts p q ∧ ¬ (withinP ts p q ∧ withinP ts q p))) → r = false) → ((∀ q, q < ps.length → ¬ (meetP ts p q ∧ ¬ (withinP ts p q ∧ withinP ts q p))) → ∃ e, Ev (fun k => netclass_pairs_FreeChoice_1.l0 k (ps.length : Int) ((p + 1 : Nat) : Int) nm ps ts) e ∧ r = e) → Ev (fun k => netclass_pairs_FreeChoice_1.l0 k (ps.length : Int) (p : Int) nm ps ts) r := by
      intro p hp' r h1 h2
      refine Ev.step (fun k => by simp only [netclass_pairs_FreeChoice_1.l0]; rw [if_pos (by omega), wrap_up hp' (by omega)]) ?_
      refine Ev.bind (consumers_ev nm (p : Int) ht hT) ?_
      rw [hv]
      by_cases hz : (consumersS true ts (p : Int)).length = 0
      · refine Ev.congr (fun k => if_pos (by omega)) ?_
        obtain ⟨e, he, hr⟩ := h2 fun q hq h => by
          obtain ⟨x, hx, _⟩ := cons_meet.2 h.1
          rw [List.eq_nil_of_length_eq_zero hz] at hx
          cases hx
        rw [hr]; exact he
      · refine Ev.congr (fun k => if_neg (by omega)) ?_
        by_cases hall : ∀ q, q < ps.length → ¬ (meetP ts p q ∧ ¬ (withinP ts p q ∧ withinP ts q p))
        · obtain ⟨e, he, hr⟩ := h2 hall
          rw [hr]
          refine Ev_up (L := fun k q => netclass_pairs_FreeChoice_1.l1 k (consumersS true ts (p : Int)) (ps.length : Int) (p : Int) (ps.length : Int) (q : Int) nm ps ts) (n := ps.length) (fun q hq hr => ?_) (Ev.step (fun k => by simp only [netclass_pairs_FreeChoice_1.l1]; rw [if_neg (by omega), wrap_up hp' (by omega)]) he)
          refine Ev.step (fun k => by simp only [netclass_pairs_FreeChoice_1.l1]; rw [if_pos (by omega), wrap_up hq (by omega)]) ?_
          refine Ev.bind (consumers_ev nm (q : Int) ht hT) ?_
          rw [hv]
          refine Ev.bind (meet_ev _ _ (cons_len _ _ ht) (cons_len _ _ ht)) ?_
          by_cases hm : meetP ts p q
          · refine Ev.congr (fun k => if_pos (dec_t (cons_meet.2 hm))) ?_
            refine Ev.bind (okFreeChoice_ev p q ht) ?_
            exact Ev.congr (fun k => if_pos (dec_t (Classical.byContradiction fun h => hall q hq ⟨hm, h⟩))) hr
          · exact Ev.congr (fun k => if_neg (by rw [dec_f (fun x => hm (cons_meet.1 x))]; exact Bool.false_ne_true)) hr
        · have hex : ∃ q, q < ps.length ∧ (meetP ts p q ∧ ¬ (withinP ts p q ∧ withinP ts q p)) := Classical.byContradiction fun h => hall fun q hq hn => h ⟨q, hq, hn⟩
          rw [h1 hex]
          refine Ev_ex (L := fun k q => netclass_pairs_FreeChoice_1.l1 k (consumersS true ts (p : Int)) (ps.length : Int) (p : Int) (ps.length : Int) (q : Int) nm ps ts) (n := ps.length) (fun q => meetP ts p q ∧ ¬ (withinP ts p q ∧ withinP ts q p)) (a := false) (e := false) (fun q hq hc => ?_) (fun q hq hc r hr => ?_) (fun h => absurd hex fun ⟨q, hq, hn⟩ => h q hq hn) (fun _ => rfl) (fun _ => rfl)
          · refine Ev.step (fun k => by simp only [netclass_pairs_FreeChoice_1.l1]; rw [if_pos (by omega), wrap_up hq (by omega)]) ?_
            refine Ev.bind (consumers_ev nm (q : Int) ht hT) ?_
            rw [hv]
            refine Ev.bind (meet_ev _ _ (cons_len _ _ ht) (cons_len _ _ ht)) ?_
            refine Ev.congr (fun k => if_pos (dec_t (cons_meet.2 hc.1))) ?_
            refine Ev.bind (okFreeChoice_ev p q ht) ?_
            exact Ev.congr (fun k => if_neg (by rw [dec_f hc.2]; exact Bool.false_ne_true)) (Ev.some _)
          · refine Ev.step (fun k => by simp only [netclass_pairs_FreeChoice_1.l1]; rw [if_pos (by omega), wrap_up hq (by omega)]) ?_
            refine Ev.bind (consumers_ev nm (q : Int) ht hT) ?_
            rw [hv]
            refine Ev.bind (meet_ev _ _ (cons_len _ _ ht) (cons_len _ _ ht)) ?_
            by_cases hm : meetP ts p q
            · refine Ev.congr (fun k => if_pos (dec_t (cons_meet.2 hm))) ?_
              refine Ev.bind (okFreeChoice_ev p q ht) ?_
              exact Ev.congr (fun k => if_pos (dec_t (Classical.byContradiction fun h => hc ⟨hm, h⟩))) hr
            · exact Ev.congr (fun k => if_neg (by rw [dec_f (fun x => hm (cons_meet.1 x))]; exact Bool.false_ne_true)) hr
    refine Ev_ex (L := fun k p => netclass_pairs_FreeChoice_1.l0 k (ps.length : Int) (p : Int) nm ps ts) (n := ps.length) (fun p => ∃ q, q < ps.length ∧ (meetP ts p q ∧ ¬ (withinP ts p q ∧ withinP ts q p))) (a := false) (e := true) (fun p hp' hc => inner p hp' false (fun _ => rfl) (fun h => absurd hc fun ⟨q, hq, hn⟩ => h q hq hn)) (fun p hp' hc r hr => inner p hp' r (fun h => absurd h hc) (fun _ => ⟨r, hr, rfl⟩)) (fun _ => Ev.one fun k => by simp only [netclass_pairs_FreeChoice_1.l0]; rw [if_neg (by omega)]) (fun ⟨p, hp', q, hq, hm, hn⟩ => dec_f fun h => hn (h.2 p hp' q hq hm)) (fun h => dec_t ⟨rfl, fun p hp' q hq hm => Classical.byContradiction fun hn => h p hp' ⟨q, hq, hm, hn⟩⟩)
/-! ### Asymmetric -/
open Classical in
theorem okAsymmetric_ev (p q : Nat) (ht : ts.length ≤ 1000000) : Ev (fun k => netclass_Asymmetric_1.f k (consumersS true ts (p : Int)) (consumersS true ts (q : Int))) (decide (withinP ts p q ∨ withinP ts q p)) := by
  unfold netclass_Asymmetric_1.f
  refine Ev.bind (within_ev _ _ (cons_len _ _ ht) (cons_len _ _ ht)) ?_
  by_cases h : withinP ts p q
  · refine Ev.congr (fun k => if_pos (dec_t (cons_within.2 h))) ?_
    rw [show decide (withinP ts p q ∨ withinP ts q p) = true from dec_t (.inl h)]; exact Ev.some _
  · refine Ev.congr (fun k => if_neg (by rw [dec_f (fun x => h (cons_within.1 x))]; exact Bool.false_ne_true)) ?_
    refine Ev.bind (within_ev _ _ (cons_len _ _ ht) (cons_len _ _ ht)) ?_
    by_cases h2 : withinP ts q p
    · rw [dec_t (cons_within.2 h2), show decide (withinP ts p q ∨ withinP ts q p) = true from dec_t (.inr h2)]; exact Ev.some _
    · rw [dec_f (fun x => h2 (cons_within.1 x)), show decide (withinP ts p q ∨ withinP ts q p) = false from dec_f fun x => x.elim h h2]; exact Ev.some _
theorem asym_ev (hp : ps.length ≤ 1000000) (ht : ts.length ≤ 1000000) (hT : Thin ts) : Ev (fun k => netclass_Asymmetric.f k nm ps ts) (asymS (basicS (validS nm ps ts) ps ts) ps ts) := by
  unfold netclass_Asymmetric.f netclass_pairs_Asymmetric_1.f
  refine Ev.bind ?_ (Ev.some _)
  refine Ev.bind (simple_ev hp ht hT) ?_
  cases hb : basicS (validS nm ps ts) ps ts with
  | false => rw [show asymS false ps ts = false from dec_f fun h => by cases h.1]; exact Ev.some _
  | true =>
    simp only [↓reduceIte]
    have hv := basic_v hb
    have inner : ∀ p, p < ps.length → ∀ r, ((∃ q, q < ps.length ∧ (meetP ts p q ∧ ¬ (withinP ts p q ∨ withinP ts q p))) → r = false) → ((∀ q, q < ps.length → ¬ (meetP ts p q ∧ ¬ (withinP ts p q ∨ withinP ts q p))) → ∃ e, Ev (fun k => netclass_pairs_Asymmetric_1.l0 k (ps.length : Int) ((p + 1 : Nat) : Int) nm ps ts) e ∧ r = e) → Ev (fun k => netclass_pairs_Asymmetric_1.l0 k (ps.length : Int) (p : Int) nm ps ts) r := by
      intro p hp' r h1 h2
      refine Ev.step (fun k => by simp only [netclass_pairs_Asymmetric_1.l0]; rw [if_pos (by omega), wrap_up hp' (by omega)]) ?_
      refine Ev.bind (consumers_ev nm (p : Int) ht hT) ?_
      rw [hv]
      by_cases hz : (consumersS true ts (p : Int)).length = 0
      · refine Ev.congr (fun k => if_pos (by omega)) ?_
        obtain ⟨e, he, hr⟩ := h2 fun q hq h => by
          obtain ⟨x, hx, _⟩ := cons_meet.2 h.1
          rw [List.eq_nil_of_length_eq_zero hz] at hx
          cases hx
        rw [hr]; exact he
      · refine Ev.congr (fun k => if_neg (by omega)) ?_
        by_cases hall : ∀ q, q < ps.length → ¬ (meetP ts p q ∧ ¬ (withinP ts p q ∨ withinP ts q p))
        · obtain ⟨e, he, hr⟩ := h2 hall
          rw [hr]
          refine Ev_up (L := fun k q => netclass_pairs_Asymmetric_1.l1 k (consumersS true ts (p : Int)) (ps.length : Int) (p : Int) (ps.length : Int) (q : Int) nm ps ts) (n := ps.length) (fun q hq hr => ?_) (Ev.step (fun k => by simp only [netclass_pairs_Asymmetric_1.l1]; rw [if_neg (by omega), wrap_up hp' (by omega)]) he)
          refine Ev.step (fun k => by simp only [netclass_pairs_Asymmetric_1.l1]; rw [if_pos (by omega), wrap_up hq (by omega)]) ?_
          refine Ev.bind (consumers_ev nm (q : Int) ht hT) ?_
          rw [hv]
          refine Ev.bind (meet_ev _ _ (cons_len _ _ ht) (cons_len _ _ ht)) ?_
          by_cases hm : meetP ts p q
          · refine Ev.congr (fun k => if_pos (dec_t (cons_meet.2 hm))) ?_
            refine Ev.bind (okAsymmetric_ev p q ht) ?_
            exact Ev.congr (fun k => if_pos (dec_t (Classical.byContradiction fun h => hall q hq ⟨hm, h⟩))) hr
          · exact Ev.congr (fun k => if_neg (by rw [dec_f (fun x => hm (cons_meet.1 x))]; exact Bool.false_ne_true)) hr
        · have hex : ∃ q, q < ps.length ∧ (meetP ts p q ∧ ¬ (withinP ts p q ∨ withinP ts q p)) := Classical.byContradiction fun h => hall fun q hq hn => h ⟨q, hq, hn⟩
          rw [h1 hex]
          refine Ev_ex (L := fun k q => netclass_pairs_Asymmetric_1.l1 k (consumersS true ts (p : Int)) (ps.length : Int) (p : Int) (ps.length : Int) (q : Int) nm ps ts) (n := ps.length) (fun q => meetP ts p q ∧ ¬ (withinP ts p q ∨ withinP ts q p)) (a := false) (e := false) (fun q hq hc => ?_) (fun q hq hc r hr => ?_) (fun h => absurd hex fun ⟨q, hq, hn⟩ => h q hq hn) (fun _ => rfl) (fun _ => rfl)
          · refine Ev.step (fun k => by simp only [netclass_pairs_Asymmetric_1.l1]; rw [if_pos (by omega), wrap_up hq (by omega)]) ?_
            refine Ev.bind (consumers_ev nm (q : Int) ht hT) ?_
            rw [hv]
            refine Ev.bind (meet_ev _ _ (cons_len _ _ ht) (cons_len _ _ ht)) ?_
            refine Ev.congr (fun k => if_pos (dec_t (cons_meet.2 hc.1))) ?_
            refine Ev.bind (okAsymmetric_ev p q ht) ?_
            exact Ev.congr (fun k => if_neg (by rw [dec_f hc.2]; exact Bool.false_ne_true)) (Ev.some _)
          · refine Ev.step (fun k => by simp only [netclass_pairs_Asymmetric_1.l1]; rw [if_pos (by omega), wrap_up hq (by omega)]) ?_
            refine Ev.bind (consumers_ev nm (q : Int) ht hT) ?_
            rw [hv]
            refine Ev.bind (meet_ev _ _ (cons_len _ _ ht) (cons_len _ _ ht)) ?_
            by_cases hm : meetP ts p q
            · refine Ev.congr (fun k => if_pos (dec_t (cons_meet.2 hm))) ?_
              refine Ev.bind (okAsymmetric_ev p q ht) ?_
              exact Ev.congr (fun k => if_pos (dec_t (Classical.byContradiction fun h => hc ⟨hm, h⟩))) hr
            · exact Ev.congr (fun k => if_neg (by rw [dec_f (fun x => hm (cons_meet.1 x))]; exact Bool.false_ne_true)) hr
    refine Ev_ex (L := fun k p => netclass_pairs_Asymmetric_1.l0 k (ps.length : Int) (p : Int) nm ps ts) (n := ps.length) (fun p => ∃ q, q < ps.length ∧ (meetP ts p q ∧ ¬ (withinP ts p q ∨ withinP ts q p))) (a := false) (e := true) (fun p hp' hc => inner p hp' false (fun _ => rfl) (fun h => absurd hc fun ⟨q, hq, hn⟩ => h q hq hn)) (fun p hp' hc r hr => inner p hp' r (fun h => absurd h hc) (fun _ => ⟨r, hr, rfl⟩)) (fun _ => Ev.one fun k => by simp only [netclass_pairs_Asymmetric_1.l0]; rw [if_neg (by omega)]) (fun ⟨p, hp', q, hq, hm, hn⟩ => dec_f fun h => hn (h.2 p hp' q hq hm)) (fun h => dec_t ⟨rfl, fun p hp' q hq hm => Classical.byContradiction fun hn => h p hp' ⟨q, hq, hm, hn⟩⟩)
theorem reffree_ev (hp : ps.length ≤ 1000000) (ht : ts.length ≤ 1000000) (hT : Thin ts) : Ev (fun k => petrinetref13_FreeChoice.f k nm ps ts) (freeS (basicS (validS nm ps ts) ps ts) ps ts) := by
  unfold petrinetref13_FreeChoice.f
  have hb' := refbasic_ev (nm := nm) hp ht hT
  cases hb : basicS (validS nm ps ts) ps ts with
  | false =>
    rw [show freeS false ps ts = false from dec_f fun h => by cases h.1]
    rw [hb] at hb'
    have hj : Ev (fun k => petrinetref13_FreeChoice.j1 k 0 false nm ps ts) false := Ev.step (fun k => by simp only [petrinetref13_FreeChoice.j1]; rw [if_neg Bool.false_ne_true]) (Ev.bind hb' (Ev.some _))
    by_cases c : (0 : Int) < (ps.length : Int)
    · refine Ev.step (fun k => by simp only [petrinetref13_FreeChoice.l0]; rw [if_pos c]) (Ev.bind hb' hj)
    · refine Ev.step (fun k => by simp only [petrinetref13_FreeChoice.l0]; rw [if_neg c]) hj
  | true =>
    rw [hb] at hb'
    have V := validS_iff.1 (basic_v hb)
    have body : ∀ p q, p < ps.length → q < ps.length → ∀ r, (meetP ts p q ∧ ¬ (withinP ts p q) → r = false) → (¬ (meetP ts p q ∧ ¬ (withinP ts p q)) → Ev (fun k => petrinetref13_FreeChoice.l1 k (p : Int) ((q + 1 : Nat) : Int) nm ps ts) r) → Ev (fun k => petrinetref13_FreeChoice.l1 k (p : Int) (q : Int) nm ps ts) r := by
      intro p q hp' hq r h1 h2
      refine Ev.step (fun k => by simp only [petrinetref13_FreeChoice.l1]; rw [if_pos (by omega), wrap_up hq (by omega)]) ?_
      refine Ev.bind (refmeet_ev p q hT ht) ?_
      by_cases hm : meetP ts p q
      · refine Ev.congr (fun k => if_pos (dec_t hm)) ?_
        refine Ev.bind (refwithin_ev V p q hT ht) ?_
        by_cases hw : withinP ts p q
        · exact Ev.congr (fun k => if_pos (dec_t hw)) (h2 fun h => h.2 hw)
        · refine Ev.congr (fun k => if_neg (by rw [dec_f hw]; exact Bool.false_ne_true)) ?_
          rw [h1 ⟨hm, hw⟩]; exact Ev.some _
      · exact Ev.congr (fun k => if_neg (by rw [dec_f hm]; exact Bool.false_ne_true)) (h2 fun h => hm h.1)
    have enter : ∀ p, p < ps.length → ∀ r, Ev (fun k => petrinetref13_FreeChoice.l1 k (p : Int) 0 nm ps ts) r → Ev (fun k => petrinetref13_FreeChoice.l0 k (p : Int) nm ps ts) r := fun p hp' r hr =>
      Ev.step (fun k => by simp only [petrinetref13_FreeChoice.l0]; rw [if_pos (by omega)]) (Ev.bind hb' (Ev.step (fun k => by simp only [petrinetref13_FreeChoice.j1]; rw [if_pos trivial]) hr))
    refine Ev_ex (L := fun k p => petrinetref13_FreeChoice.l0 k (p : Int) nm ps ts) (n := ps.length) (fun p => ∃ q, q < ps.length ∧ (meetP ts p q ∧ ¬ (withinP ts p q))) (a := false) (e := true) (fun p hp' hc => ?_) (fun p hp' hc r hr => ?_) (fun _ => ?_) (fun ⟨p, hp', q, hq, hm, hn⟩ => dec_f fun h => hn (h.2 p hp' q hq hm).1) (fun h => dec_t ⟨rfl, fun p hp' q hq hm => ⟨Classical.byContradiction fun hn => h p hp' ⟨q, hq, hm, hn⟩, Classical.byContradiction fun hn => h q hq ⟨p, hp', meet_sym hm, hn⟩⟩⟩)
    · refine enter p hp' _ ?_
      refine Ev_ex (L := fun k q => petrinetref13_FreeChoice.l1 k (p : Int) (q : Int) nm ps ts) (n := ps.length) (fun q => meetP ts p q ∧ ¬ (withinP ts p q)) (a := false) (e := false) (fun q hq h => body p q hp' hq _ (fun _ => rfl) (fun hn => absurd h hn)) (fun q hq h r hr => body p q hp' hq _ (fun hn => absurd hn h) (fun _ => hr)) (fun h => absurd hc fun ⟨q, hq, hn⟩ => h q hq hn) (fun _ => rfl) (fun _ => rfl)
    · refine enter p hp' _ ?_
      exact Ev_up (L := fun k q => petrinetref13_FreeChoice.l1 k (p : Int) (q : Int) nm ps ts) (n := ps.length) (fun q hq h => body p q hp' hq _ (fun hn => absurd ⟨q, hq, hn⟩ hc) (fun _ => h)) (Ev.step (fun k => by simp only [petrinetref13_FreeChoice.l1]; rw [if_neg (by omega), wrap_up hp' (by omega)]) hr)
    · refine Ev.step (fun k => by simp only [petrinetref13_FreeChoice.l0]; rw [if_neg (by omega)]) ?_
      exact Ev.step (fun k => by simp only [petrinetref13_FreeChoice.j1]; rw [if_neg Bool.false_ne_true]) (Ev.bind hb' (Ev.some _))
theorem refasym_ev (hp : ps.length ≤ 1000000) (ht : ts.length ≤ 1000000) (hT : Thin ts) : Ev (fun k => petrinetref13_Asymmetric.f k nm ps ts) (asymS (basicS (validS nm ps ts) ps ts) ps ts) := by
  unfold petrinetref13_Asymmetric.f
  have hb' := refbasic_ev (nm := nm) hp ht hT
  cases hb : basicS (validS nm ps ts) ps ts with
  | false =>
    rw [show asymS false ps ts = false from dec_f fun h => by cases h.1]
    rw [hb] at hb'
    have hj : Ev (fun k => petrinetref13_Asymmetric.j1 k 0 false nm ps ts) false := Ev.step (fun k => by simp only [petrinetref13_Asymmetric.j1]; rw [if_neg Bool.false_ne_true]) (Ev.bind hb' (Ev.some _))
    by_cases c : (0 : Int) < (ps.length : Int)
    · refine Ev.step (fun k => by simp only [petrinetref13_Asymmetric.l0]; rw [if_pos c]) (Ev.bind hb' hj)
    · refine Ev.step (fun k => by simp only [petrinetref13_Asymmetric.l0]; rw [if_neg c]) hj
  | true =>
    rw [hb] at hb'
    have V := validS_iff.1 (basic_v hb)
    have body : ∀ p q, p < ps.length → q < ps.length → ∀ r, (meetP ts p q ∧ ¬ (withinP ts p q ∨ withinP ts q p) → r = false) → (¬ (meetP ts p q ∧ ¬ (withinP ts p q ∨ withinP ts q p)) → Ev (fun k => petrinetref13_Asymmetric.l1 k (p : Int) ((q + 1 : Nat) : Int) nm ps ts) r) → Ev (fun k => petrinetref13_Asymmetric.l1 k (p : Int) (q : Int) nm ps ts) r := by
      intro p q hp' hq r h1 h2
      refine Ev.step (fun k => by simp only [petrinetref13_Asymmetric.l1]; rw [if_pos (by omega), wrap_up hq (by omega)]) ?_
      refine Ev.bind (refmeet_ev p q hT ht) ?_
      by_cases hm : meetP ts p q
      · refine Ev.congr (fun k => if_pos (dec_t hm)) ?_
        refine Ev.bind (refwithin_ev V p q hT ht) ?_
        by_cases hw : withinP ts p q
        · exact Ev.congr (fun k => if_pos (dec_t hw)) (h2 fun h => h.2 (.inl hw))
        · refine Ev.congr (fun k => if_neg (by rw [dec_f hw]; exact Bool.false_ne_true)) ?_
          refine Ev.bind (refwithin_ev V q p hT ht) ?_
          by_cases hw2 : withinP ts q p
          · exact Ev.congr (fun k => if_pos (dec_t hw2)) (h2 fun h => h.2 (.inr hw2))
          · refine Ev.congr (fun k => if_neg (by rw [dec_f hw2]; exact Bool.false_ne_true)) ?_
            rw [h1 ⟨hm, fun h => h.elim hw hw2⟩]; exact Ev.some _
      · exact Ev.congr (fun k => if_neg (by rw [dec_f hm]; exact Bool.false_ne_true)) (h2 fun h => hm h.1)
    have enter : ∀ p, p < ps.length → ∀ r, Ev (fun k => petrinetref13_Asymmetric.l1 k (p : Int) 0 nm ps ts) r → Ev (fun k => petrinetref13_Asymmetric.l0 k (p : Int) nm ps ts) r := fun p hp' r hr =>
      Ev.step (fun k => by simp only [petrinetref13_Asymmetric.l0]; rw [if_pos (by omega)]) (Ev.bind hb' (Ev.step (fun k => by simp only [petrinetref13_Asymmetric.j1]; rw [if_pos trivial]) hr))
    refine Ev_ex (L := fun k p => petrinetref13_Asymmetric.l0 k (p : Int) nm ps ts) (n := ps.length) (fun p => ∃ q, q < ps.length ∧ (meetP ts p q ∧ ¬ (withinP ts p q ∨ withinP ts q p))) (a := false) (e := true) (fun p hp' hc => ?_) (fun p hp' hc r hr => ?_) (fun _ => ?_) (fun ⟨p, hp', q, hq, hm, hn⟩ => dec_f fun h => hn (h.2 p hp' q hq hm)) (fun h => dec_t ⟨rfl, fun p hp' q hq hm => Classical.byContradiction fun hn => h p hp' ⟨q, hq, hm, hn⟩⟩)
    · refine enter p hp' _ ?_
      refine Ev_ex (L := fun k q => petrinetref13_Asymmetric.l1 k (p : Int) (q : Int) nm ps ts) (n := ps.length) (fun q => meetP ts p q ∧ ¬ (withinP ts p q ∨ withinP ts q p)) (a := false) (e := false) (fun q hq h => body p q hp' hq _ (fun _ => rfl) (fun hn => absurd h hn)) (fun q hq h r hr => body p q hp' hq _ (fun hn => absurd hn h) (fun _ => hr)) (fun h => absurd hc fun ⟨q, hq, hn⟩ => h q hq hn) (fun _ => rfl) (fun _ => rfl)
    · refine enter p hp' _ ?_
      exact Ev_up (L := fun k q => petrinetref13_Asymmetric.l1 k (p : Int) (q : Int) nm ps ts) (n := ps.length) (fun q hq h => body p q hp' hq _ (fun hn => absurd ⟨q, hq, hn⟩ hc) (fun _ => h)) (Ev.step (fun k => by simp only [petrinetref13_Asymmetric.l1]; rw [if_neg (by omega), wrap_up hp' (by omega)]) hr)
    · refine Ev.step (fun k => by simp only [petrinetref13_Asymmetric.l0]; rw [if_neg (by omega)]) ?_
      exact Ev.step (fun k => by simp only [petrinetref13_Asymmetric.j1]; rw [if_neg Bool.false_ne_true]) (Ev.bind hb' (Ev.some _))
end
end Go.Proofs.Ytplljicodflagaa.Pl
/- Whether a net is valid, as netclass asks it. -/
namespace Go.Proofs.Ytplljicodflagaa.Pl
open Go.RowKit Go.Proofs.Ytplljicodflagaa.P Go.Proofs.YtplljicodflagaaW.PrintWords Go.Proofs.YtplljicodflagaaW.PrintMore
theorem nvalid_ev (nm : ByteArray) {ps : List Pla} {ts : List Tra} (hT : Thin ts) : Ev (fun k => netclass_valid.f k nm ps ts) (validS nm ps ts) := by
  unfold netclass_valid.f
  exact Ev.bind (check_ev nm hT) (Ev.some _)
end Go.Proofs.Ytplljicodflagaa.Pl
/- Weights of a transition's arcs, the reference's. -/
namespace Go.Proofs.Ytplljicodflagaa.Pl
set_option linter.unusedVariables false
open Go.RowKit Go.Proofs.Ytplljicodflagaa.P Go.Proofs.YtplljicodflagaaW.PrintWords Go.Proofs.YtplljicodflagaaW.PrintMore

theorem refpre_ev (nm : ByteArray) {ps : List Pla} {ts : List Tra} (t p : Int) (hT : Thin ts) : Ev (fun k => petrinetref09_Pre.f k nm ps ts t p) (preS (validS nm ps ts) ts t p) := by
  unfold petrinetref09_Pre.f preS
  refine Ev.bind (refvalid_ev nm hT) ?_
  by_cases hv : validS nm ps ts = true
  · simp only [hv, ↓reduceIte]
    by_cases c : t < 0 ∨ t ≥ (ts.length : Int)
    · rw [if_pos c]
      exact Ev.congr (f := fun _ => some 0) (fun k => by rw [ite_or2, if_pos c]) (Ev.some _)
    · rw [if_neg c]
      obtain ⟨i, rfl⟩ : ∃ i : Nat, t = i := ⟨t.toNat, by omega⟩
      have hi : i < ts.length := by omega
      refine Ev.congr (f := fun k => (petrinetref09_Weight.f k (ts.getD i zT).f1 p).bind fun x => some x) (fun k => by rw [ite_or2, if_neg c, if_pos (by omega), if_pos (by omega), rdT]) ?_
      exact Ev.bind (refweight_ev _ p (hT.at hi).2.1) (Ev.some _)
  · simp only [hv]; exact Ev.some _
theorem refpost_ev (nm : ByteArray) {ps : List Pla} {ts : List Tra} (t p : Int) (hT : Thin ts) : Ev (fun k => petrinetref09_Post.f k nm ps ts t p) (postS (validS nm ps ts) ts t p) := by
  unfold petrinetref09_Post.f postS
  refine Ev.bind (refvalid_ev nm hT) ?_
  by_cases hv : validS nm ps ts = true
  · simp only [hv, ↓reduceIte]
    by_cases c : t < 0 ∨ t ≥ (ts.length : Int)
    · rw [if_pos c]
      exact Ev.congr (f := fun _ => some 0) (fun k => by rw [ite_or2, if_pos c]) (Ev.some _)
    · rw [if_neg c]
      obtain ⟨i, rfl⟩ : ∃ i : Nat, t = i := ⟨t.toNat, by omega⟩
      have hi : i < ts.length := by omega
      refine Ev.congr (f := fun k => (petrinetref09_Weight.f k (ts.getD i zT).f2 p).bind fun x => some x) (fun k => by rw [ite_or2, if_neg c, if_pos (by omega), if_pos (by omega), rdT]) ?_
      exact Ev.bind (refweight_ev _ p (hT.at hi).2.2.1) (Ev.some _)
  · simp only [hv]; exact Ev.some _
end Go.Proofs.Ytplljicodflagaa.Pl
/- Whether a net is pure, by both texts. -/
namespace Go.Proofs.Ytplljicodflagaa.Pl
set_option linter.unusedVariables false
open Go.RowKit Go.Proofs.Ytplljicodflagaa.P Go.Proofs.YtplljicodflagaaW.PrintWords Go.Proofs.YtplljicodflagaaW.PrintMore
section
variable {nm : ByteArray} {ps : List Pla} {ts : List Tra}
def pureP (ts : List Tra) : Prop := ∀ t, t < ts.length → ¬ ∃ x ∈ (ts.getD t zT).f1.map (·.f0), x ∈ (ts.getD t zT).f2.map (·.f0)
open Classical in
noncomputable def pureS (v : Bool) (ts : List Tra) : Bool := decide (v = true ∧ pureP ts)
theorem pure_ev (hp : ps.length ≤ 1000000) (ht : ts.length ≤ 1000000) (hT : Thin ts) : Ev (fun k => netclass_Pure.f k nm ps ts) (pureS (validS nm ps ts) ts) := by
  unfold netclass_Pure.f
  refine Ev.bind (nvalid_ev nm hT) ?_
  cases hv : validS nm ps ts with
  | false => rw [show pureS false ts = false from dec_f fun h => by cases h.1]; exact Ev.some _
  | true =>
    simp only [↓reduceIte]
    have io : ∀ i, i < ts.length → inputsS true ts (i : Int) = (ts.getD i zT).f1.map (·.f0) ∧ outputsS true ts (i : Int) = (ts.getD i zT).f2.map (·.f0) := fun i hi => by
      unfold inputsS outputsS
      rw [if_pos rfl, if_neg (by omega), if_pos rfl, if_neg (by omega)]
      exact ⟨rfl, rfl⟩
    have st : ∀ i, i < ts.length → ∀ r, Ev (fun k => if decide (∃ x ∈ (ts.getD i zT).f1.map (·.f0), x ∈ (ts.getD i zT).f2.map (·.f0)) = true then some false else netclass_Pure.l0 k (ts.length : Int) ((i + 1 : Nat) : Int) nm ps ts) r → Ev (fun k => netclass_Pure.l0 k (ts.length : Int) (i : Int) nm ps ts) r := fun i hi r hr => by
      refine Ev.step (fun k => by simp only [netclass_Pure.l0]; rw [if_pos (by omega), wrap_up hi (by omega)]) ?_
      refine Ev.bind (inputs_ev nm (i : Int) ht hT) ?_
      refine Ev.bind (outputs_ev nm (i : Int) ht hT) ?_
      rw [hv, (io i hi).1, (io i hi).2]
      exact Ev.bind (meet_ev _ _ (by rw [List.length_map]; exact (hT.at hi).2.1) (by rw [List.length_map]; exact (hT.at hi).2.2.1)) hr
    refine Ev_ex (L := fun k i => netclass_Pure.l0 k (ts.length : Int) (i : Int) nm ps ts) (n := ts.length) (fun t => ∃ x ∈ (ts.getD t zT).f1.map (·.f0), x ∈ (ts.getD t zT).f2.map (·.f0)) (a := false) (e := true) (fun i hi hc => ?_) (fun i hi hc r hr => ?_) (fun _ => Ev.one fun k => by simp only [netclass_Pure.l0]; rw [if_neg (by omega)]) (fun ⟨j, hj, hn⟩ => dec_f fun h => h.2 j hj hn) (fun h => dec_t ⟨rfl, h⟩)
    · exact st i hi _ (Ev.congr (fun k => if_pos (dec_t hc)) (Ev.some _))
    · exact st i hi _ (Ev.congr (fun k => if_neg (by rw [dec_f hc]; exact Bool.false_ne_true)) hr)
theorem refpure_ev (hp : ps.length ≤ 1000000) (ht : ts.length ≤ 1000000) (hT : Thin ts) : Ev (fun k => petrinetref13_Pure.f k nm ps ts) (pureS (validS nm ps ts) ts) := by
  unfold petrinetref13_Pure.f
  refine Ev.bind (refvalid_ev nm hT) ?_
  cases hv : validS nm ps ts with
  | false => rw [show pureS false ts = false from dec_f fun h => by cases h.1]; exact Ev.some _
  | true =>
    simp only [↓reduceIte]
    have V := validS_iff.1 hv
    have pp : ∀ t, t < ts.length → ∀ p : Nat, preS true ts (t : Int) (p : Int) = weightS (ts.getD t zT).f1 (p : Int) ∧ postS true ts (t : Int) (p : Int) = weightS (ts.getD t zT).f2 (p : Int) := fun t ht p => by
      unfold preS postS
      rw [if_pos rfl, if_neg (by omega), if_pos rfl, if_neg (by omega)]
      exact ⟨rfl, rfl⟩
    let B := fun (t p : Nat) => weightS (ts.getD t zT).f1 (p : Int) > 0 ∧ weightS (ts.getD t zT).f2 (p : Int) > 0
    have st : ∀ t p, t < ts.length → p < ps.length → ∀ r, (B t p → r = false) → (¬ B t p → Ev (fun k => petrinetref13_Pure.l1 k (t : Int) ((p + 1 : Nat) : Int) nm ps ts) r) → Ev (fun k => petrinetref13_Pure.l1 k (t : Int) (p : Int) nm ps ts) r := fun t p ht' hp' r h1 h2 => by
      refine Ev.step (fun k => by simp only [petrinetref13_Pure.l1]; rw [if_pos (by omega), wrap_up hp' (by omega)]) ?_
      refine Ev.bind (refpre_ev nm _ _ hT) ?_
      rw [hv, (pp t ht' p).1]
      by_cases c1 : weightS (ts.getD t zT).f1 (p : Int) > 0
      · refine Ev.congr (fun k => if_pos c1) ?_
        refine Ev.bind (refpost_ev nm _ _ hT) ?_
        rw [hv, (pp t ht' p).2]
        by_cases c2 : weightS (ts.getD t zT).f2 (p : Int) > 0
        · rw [h1 ⟨c1, c2⟩]
          exact Ev.congr (fun k => if_pos c2) (Ev.some _)
        · exact Ev.congr (fun k => if_neg c2) (h2 fun h => c2 h.2)
      · exact Ev.congr (fun k => if_neg c1) (h2 fun h => c1 h.1)
    have eqv : ∀ t, t < ts.length → ((∃ p, p < ps.length ∧ B t p) ↔ ∃ x ∈ (ts.getD t zT).f1.map (·.f0), x ∈ (ts.getD t zT).f2.map (·.f0)) := fun t ht' => by
      obtain ⟨_, a1, a2, _⟩ := V.arcs ht'
      constructor
      · rintro ⟨p, _, h1, h2⟩
        exact ⟨_, (weight_pos a1 _).1 h1, (weight_pos a2 _).1 h2⟩
      · rintro ⟨x, h1, h2⟩
        obtain ⟨a, ha, e⟩ := List.mem_map.1 h1
        obtain ⟨i, hi, rfl⟩ := List.getElem_of_mem ha
        have hb := arcsE_zero a1 i hi
        rw [List.getD_eq_getElem?_getD, List.getElem?_eq_getElem hi] at hb
        have hb0 : 0 ≤ x ∧ x < (ps.length : Int) := by rw [← e]; exact ⟨hb.1, hb.2.1⟩
        obtain ⟨p, rfl⟩ : ∃ p : Nat, x = (p : Int) := ⟨x.toNat, by omega⟩
        exact ⟨p, by omega, (weight_pos a1 _).2 h1, (weight_pos a2 _).2 h2⟩
    refine Ev_ex (L := fun k t => petrinetref13_Pure.l0 k (t : Int) nm ps ts) (n := ts.length) (fun t => ∃ p, p < ps.length ∧ B t p) (a := false) (e := true) (fun t ht' hc => ?_) (fun t ht' hc r hr => ?_) (fun _ => Ev.one fun k => by simp only [petrinetref13_Pure.l0]; rw [if_neg (by omega)]) (fun ⟨j, hj, hn⟩ => dec_f fun h => h.2 j hj ((eqv j hj).1 hn)) (fun h => dec_t ⟨rfl, fun t ht' hn => h t ht' ((eqv t ht').2 hn)⟩)
    · refine Ev.step (f := fun k => petrinetref13_Pure.l1 k (t : Int) 0 nm ps ts) (fun k => by simp only [petrinetref13_Pure.l0]; rw [if_pos (by omega)]) ?_
      exact Ev_ex (L := fun k p => petrinetref13_Pure.l1 k (t : Int) (p : Int) nm ps ts) (n := ps.length) (fun p => B t p) (a := false) (e := false) (fun p hp' h => st t p ht' hp' _ (fun _ => rfl) (fun hn => absurd h hn)) (fun p hp' h r hr => st t p ht' hp' _ (fun hn => absurd hn h) (fun _ => hr)) (fun h => absurd hc fun ⟨q, hq, hn⟩ => h q hq hn) (fun _ => rfl) (fun _ => rfl)
    · refine Ev.step (f := fun k => petrinetref13_Pure.l1 k (t : Int) 0 nm ps ts) (fun k => by simp only [petrinetref13_Pure.l0]; rw [if_pos (by omega)]) ?_
      exact Ev_up (L := fun k p => petrinetref13_Pure.l1 k (t : Int) (p : Int) nm ps ts) (n := ps.length) (fun p hp' h => st t p ht' hp' _ (fun hn => absurd ⟨p, hp', hn⟩ hc) (fun _ => h)) (Ev.step (fun k => by simp only [petrinetref13_Pure.l1]; rw [if_neg (by omega), wrap_up ht' (by omega)]) hr)
end
end Go.Proofs.Ytplljicodflagaa.Pl
namespace Go.Proofs.Ytplljicodflagaa.Pure
open Go.RowKit Go.Proofs.Ytplljicodflagaa.P Go.Proofs.Ytplljicodflagaa.Pl Go.Proofs.YtplljicodflagaaW.PrintWords
theorem NetclassKinds (nm : ByteArray) (ps : List Pla) (ts : List Tra) {w : Prop} (_h : w) : ∃ k, petrinetlaw13_NetclassKinds.f k nm ps ts = some true := by
  refine Ev.rounds (g := fun k => petrinetlaw13_NetclassKinds.f k nm ps ts) ?_
  unfold petrinetlaw13_NetclassKinds.f
  refine Ev.bind (small_ev nm ps ts) ?_
  cases hs : smallS nm ps ts with
  | false =>
    simp only [smallR, Bool.false_eq_true, ↓reduceIte]
    exact alive'
  | true =>
    have hS := smallS_true hs
    have hT := hS.thin
    have hp : ps.length ≤ 1000000 := Nat.le_trans hS.p (by decide)
    have ht : ts.length ≤ 1000000 := Nat.le_trans hS.t (by decide)
    simp only [smallR, ↓reduceIte]
    refine Ev.bind (sm_ev hp ht hT) ?_
    refine Ev.bind (refsm_ev hp ht hT) ?_
    simp only [beq_self_eq_true, ↓reduceIte]
    refine Ev.bind (mg_ev hp ht hT) ?_
    refine Ev.bind (refmg_ev hp ht hT) ?_
    simp only [beq_self_eq_true, ↓reduceIte]
    refine Ev.bind (free_ev hp ht hT) ?_
    refine Ev.bind (reffree_ev hp ht hT) ?_
    simp only [beq_self_eq_true, ↓reduceIte]
    refine Ev.bind (asym_ev hp ht hT) ?_
    refine Ev.bind (refasym_ev hp ht hT) ?_
    simp only [beq_self_eq_true, ↓reduceIte]
    refine Ev.bind (pure_ev hp ht hT) ?_
    refine Ev.bind (refpure_ev hp ht hT) ?_
    simp only [beq_self_eq_true, ↓reduceIte]
    exact alive'
end Go.Proofs.Ytplljicodflagaa.Pure
