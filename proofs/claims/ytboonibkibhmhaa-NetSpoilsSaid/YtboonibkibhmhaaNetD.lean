/- What the functions over nets answer, told plainly. -/
import Derived.Test.YtboonibkibhmhaaNet1
import Derived.Laws.Strings
import Derived.WideShapes
namespace Go.Proofs.Ytboonibkibhmhaa.Pl
open Go.RowKit Go.Proofs.Ytboonibkibhmhaa.P Go.Proofs.YtboonibkibhmhaaW.PrintWords Go.Proofs.YtboonibkibhmhaaW.PrintMore

theorem bytes_eq {a b : ByteArray} (h : a.toList = b.toList) : a = b := by
  rw [ByteArray.toList_eq, ByteArray.toList_eq] at h
  exact Go.WideShapes.bytes_inj h
def weightS (l : List Ac) (p : Int) : Int := first (fun i => if (l.getD i zA).f0 = p then some (l.getD i zA).f1 else none) 0 l.length
def placeS (v : Bool) (ps : List Pla) (s : ByteArray) : Int := if v = true then first (fun i => if (ps.getD i zP).f0.toList = s.toList then some (i : Int) else none) (-1) ps.length else -1
def transS (v : Bool) (ts : List Tra) (s : ByteArray) : Int := if v = true then first (fun i => if (ts.getD i zT).f0.toList = s.toList then some (i : Int) else none) (-1) ts.length else -1
def preS (v : Bool) (ts : List Tra) (t p : Int) : Int := if v = true then (if t < 0 ∨ t ≥ (ts.length : Int) then 0 else weightS (ts.getD t.toNat zT).f1 p) else 0
def postS (v : Bool) (ts : List Tra) (t p : Int) : Int := if v = true then (if t < 0 ∨ t ≥ (ts.length : Int) then 0 else weightS (ts.getD t.toNat zT).f2 p) else 0
def inputsS (v : Bool) (ts : List Tra) (t : Int) : List Int := if v = true then (if t < 0 ∨ t ≥ (ts.length : Int) then [] else (ts.getD t.toNat zT).f1.map (·.f0)) else []
def outputsS (v : Bool) (ts : List Tra) (t : Int) : List Int := if v = true then (if t < 0 ∨ t ≥ (ts.length : Int) then [] else (ts.getD t.toNat zT).f2.map (·.f0)) else []
def initialS (v : Bool) (ps : List Pla) : List Int := if v = true then ps.map (·.f1) else []
def plainP (ps : List Pla) (e : Bool) : Bool := first (fun i => if (ps.getD i zP).f2 ≠ 0 then some false else none) e ps.length
def plainT (ts : List Tra) (e : Bool) : Bool := first (fun i => if ((ts.getD i zT).f3.length : Int) > 0 ∨ (ts.getD i zT).f4 ≠ 0 then some false else none) e ts.length
def plainS (v : Bool) (ps : List Pla) (ts : List Tra) : Bool := plainT ts (plainP ps v)
theorem plainP_eq (ps : List Pla) (e : Bool) : plainP ps e = if ∃ i, i < ps.length ∧ (ps.getD i zP).f2 ≠ 0 then false else e := first_any _ _ _ _
theorem plainT_eq (ts : List Tra) (e : Bool) : plainT ts e = if ∃ i, i < ts.length ∧ (((ts.getD i zT).f3.length : Int) > 0 ∨ (ts.getD i zT).f4 ≠ 0) then false else e := first_any _ _ _ _
theorem plain_swap (v : Bool) (ps : List Pla) (ts : List Tra) : plainS v ps ts = if v = true then plainP ps (plainT ts true) else false := by
  unfold plainS
  rw [plainT_eq, plainP_eq, plainP_eq, plainT_eq]
  cases v <;> by_cases c1 : ∃ i, i < ps.length ∧ (ps.getD i zP).f2 ≠ 0 <;> by_cases c2 : ∃ i, i < ts.length ∧ (((ts.getD i zT).f3.length : Int) > 0 ∨ (ts.getD i zT).f4 ≠ 0) <;> simp only [c1, c2, if_true, if_false, Bool.false_eq_true, ite_self]
def ordinaryS (v : Bool) (ts : List Tra) : Bool := if (ts.all fun t => (t.f1.all fun a => a.f1 == 1) && (t.f2.all fun a => a.f1 == 1)) = true then v else false
def incRow (ts : List Tra) (p : Nat) : List Int := ts.map fun t => wrap64 (weightS t.f2 (p : Int) - weightS t.f1 (p : Int))
def incidenceS (v : Bool) (ps : List Pla) (ts : List Tra) : List (List Int) := if v = true then (if ts.length = 0 then [] else (List.range ps.length).map (incRow ts)) else []
def producersS (v : Bool) (ts : List Tra) (p : Int) : List Int := if v = true then ((List.range ts.length).filter fun t : Nat => decide (weightS (ts.getD t zT).f2 p > 0)).map (fun t : Nat => (t : Int)) else []
def consumersS (v : Bool) (ts : List Tra) (p : Int) : List Int := if v = true then ((List.range ts.length).filter fun t : Nat => decide (weightS (ts.getD t zT).f1 p > 0)).map (fun t : Nat => (t : Int)) else []

/-! ### equal nets -/
theorem ac_ext {a b : Ac} (h0 : a.f0 = b.f0) (h1 : a.f1 = b.f1) : a = b := by cases a; cases b; simp_all
theorem pla_ext {a b : Pla} (h0 : a.f0 = b.f0) (h1 : a.f1 = b.f1) (h2 : a.f2 = b.f2) : a = b := by cases a; cases b; simp_all
theorem tra_ext {a b : Tra} (h0 : a.f0 = b.f0) (h1 : a.f1 = b.f1) (h2 : a.f2 = b.f2) (h3 : a.f3 = b.f3) (h4 : a.f4 = b.f4) : a = b := by cases a; cases b; simp_all
theorem ext_getD {α : Type} (z : α) {a b : List α} (hl : a.length = b.length) (h : ∀ i, i < a.length → a.getD i z = b.getD i z) : a = b := by
  refine List.ext_getElem hl (fun i h1 h2 => ?_)
  have := h i h1
  rw [List.getD_eq_getElem?_getD, List.getD_eq_getElem?_getD, List.getElem?_eq_getElem h1, List.getElem?_eq_getElem h2] at this
  exact this
def neA (x y : Ac) : Bool := (!(x.f0 == y.f0) || (!(x.f1 == y.f1)))
theorem neA_false {x y : Ac} : neA x y = false ↔ x = y := by
  unfold neA
  constructor
  · intro h
    simp only [Bool.or_eq_false_iff, Bool.not_eq_false', beq_iff_eq] at h
    exact ac_ext h.1 h.2
  · rintro rfl
    simp
def sameArcsS (a b : List Ac) : Bool := if (a.length : Int) = (b.length : Int) then first (fun i => if neA (a.getD i zA) (b.getD i zA) = true then some false else none) true a.length else false
theorem first_bool {n : Nat} (c : Nat → Bool) : first (fun i => if c i = true then some false else none) true n = true ↔ ∀ i, i < n → c i = false := by
  rw [first_any (fun i => c i = true)]
  constructor
  · intro h i hi
    refine Bool.eq_false_iff.2 fun hc => ?_
    rw [if_pos ⟨i, hi, hc⟩] at h
    cases h
  · intro h
    rw [if_neg]
    rintro ⟨i, hi, hc⟩
    rw [h i hi] at hc
    cases hc
theorem sameArcsS_iff {a b : List Ac} : sameArcsS a b = true ↔ a = b := by
  unfold sameArcsS
  constructor
  · intro h
    by_cases hl : (a.length : Int) = (b.length : Int)
    · rw [if_pos hl] at h
      exact ext_getD zA (by omega) (fun i hi => neA_false.1 (first_bool (fun i => neA (a.getD i zA) (b.getD i zA)) |>.1 h i hi))
    · rw [if_neg hl] at h; cases h
  · rintro rfl
    rw [if_pos rfl]
    exact first_bool (fun i => neA (a.getD i zA) (a.getD i zA)) |>.2 fun i _ => neA_false.2 rfl
def neP (x y : Pla) : Bool := (!(x.f0.toList == y.f0.toList) || (!(x.f1 == y.f1) || (!(x.f2 == y.f2))))
theorem neP_false {x y : Pla} : neP x y = false ↔ x = y := by
  unfold neP
  constructor
  · intro h
    simp only [Bool.or_eq_false_iff, Bool.not_eq_false', beq_iff_eq] at h
    exact pla_ext (bytes_eq h.1) h.2.1 h.2.2
  · rintro rfl
    simp
def eqT (x y : Tra) : Bool := if (x.f0.toList == y.f0.toList) = true then (if (x.f4 == y.f4) = true then (if sameArcsS x.f1 y.f1 = true then (if sameArcsS x.f2 y.f2 = true then sameArcsS x.f3 y.f3 else false) else false) else false) else false
theorem eqT_true {x y : Tra} : eqT x y = true ↔ x = y := by
  unfold eqT
  constructor
  · intro h
    by_cases c0 : (x.f0.toList == y.f0.toList) = true
    · rw [if_pos c0] at h
      by_cases c4 : (x.f4 == y.f4) = true
      · rw [if_pos c4] at h
        by_cases c1 : sameArcsS x.f1 y.f1 = true
        · rw [if_pos c1] at h
          by_cases c2 : sameArcsS x.f2 y.f2 = true
          · rw [if_pos c2] at h
            exact tra_ext (bytes_eq (beq_iff_eq.1 c0)) (sameArcsS_iff.1 c1) (sameArcsS_iff.1 c2) (sameArcsS_iff.1 h) (beq_iff_eq.1 c4)
          · rw [if_neg c2] at h; cases h
        · rw [if_neg c1] at h; cases h
      · rw [if_neg c4] at h; cases h
    · rw [if_neg c0] at h; cases h
  · rintro rfl
    rw [if_pos (beq_iff_eq.2 rfl), if_pos (beq_iff_eq.2 rfl), if_pos (sameArcsS_iff.2 rfl), if_pos (sameArcsS_iff.2 rfl)]
    exact sameArcsS_iff.2 rfl
def equalS (nm : ByteArray) (ps : List Pla) (ts : List Tra) (nm' : ByteArray) (ps' : List Pla) (ts' : List Tra) : Bool :=
  if (nm.toList == nm'.toList) = true then (if (ps.length : Int) = (ps'.length : Int) then (if (ts.length : Int) = (ts'.length : Int) then first (fun i => if neP (ps.getD i zP) (ps'.getD i zP) = true then some false else none) (first (fun i => if (!eqT (ts.getD i zT) (ts'.getD i zT)) = true then some false else none) true ts.length) ps.length else false) else false) else false
theorem equalS_iff {nm : ByteArray} {ps : List Pla} {ts : List Tra} {nm' : ByteArray} {ps' : List Pla} {ts' : List Tra} : equalS nm ps ts nm' ps' ts' = true ↔ nm = nm' ∧ ps = ps' ∧ ts = ts' := by
  unfold equalS
  constructor
  · intro h
    by_cases c0 : (nm.toList == nm'.toList) = true
    · rw [if_pos c0] at h
      by_cases c1 : (ps.length : Int) = (ps'.length : Int)
      · rw [if_pos c1] at h
        by_cases c2 : (ts.length : Int) = (ts'.length : Int)
        · rw [if_pos c2] at h
          rcases first_cases (fun i => if neP (ps.getD i zP) (ps'.getD i zP) = true then some false else none) (first (fun i => if (!eqT (ts.getD i zT) (ts'.getD i zT)) = true then some false else none) true ts.length) ps.length with ⟨h1, h2⟩ | ⟨j, h1, h2, _⟩
          · rw [h1] at h
            refine ⟨bytes_eq (beq_iff_eq.1 c0), ext_getD zP (by omega) (fun i hi => neP_false.1 ?_), ext_getD zT (by omega) (fun i hi => eqT_true.1 ?_)⟩
            · have := h2 i hi
              refine Bool.eq_false_iff.2 fun hc => ?_
              simp only [hc, if_true] at this
              cases this
            · have := first_bool (fun i => !eqT (ts.getD i zT) (ts'.getD i zT)) |>.1 h i hi
              simpa using this
          · rw [h] at h2
            by_cases d : neP (ps.getD j zP) (ps'.getD j zP) = true
            · simp only [d, if_true] at h2; cases h2
            · simp only [d] at h2; cases h2
        · rw [if_neg c2] at h; cases h
      · rw [if_neg c1] at h; cases h
    · rw [if_neg c0] at h; cases h
  · rintro ⟨rfl, rfl, rfl⟩
    rw [if_pos (beq_iff_eq.2 rfl), if_pos rfl, if_pos rfl, first_all]
    · exact first_bool (fun i => !eqT (ts.getD i zT) (ts.getD i zT)) |>.2 fun i _ => by rw [eqT_true.2 rfl]; rfl
    · intro j hj
      rw [if_neg (by rw [neP_false.2 rfl]; exact Bool.false_ne_true)]
end Go.Proofs.Ytboonibkibhmhaa.Pl
