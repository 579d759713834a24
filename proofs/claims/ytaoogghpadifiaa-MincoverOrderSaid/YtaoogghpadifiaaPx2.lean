-- LAID BY OUR PROGRAM OVER THE PRINT (xprint.py, part.py): Lean checks it.
import Derived.Test.YtaoogghpadifiaaPx0
import Derived.Test.YtaoogghpadifiaaPx1
import Derived.Laws.RangeString
import Derived.BigRegion
import Derived.Laws.EntriesVeiled
import Derived.RegionTactic
import Derived.Test.YtaoogghpadifiaaCopy
namespace Go.Proofs.Ytaoogghpadifiaa.P
open Go.RowKit Go.Proofs.YtaoogghpadifiaaW.PrintWords Go.Proofs.YtaoogghpadifiaaW.PrintLast Go.Proofs.YtaoogghpadifiaaW.PrintMore
attribute [local go_sem] max2_int min2_int max_two min_two max_three min_three max_four min_four   -- for this text's walks alone
set_option linter.unusedVariables false
set_option linter.unusedSimpArgs false

/-! ### r04_Lists: function 16 -/
def r04_Lists.l0 : Nat → List (List Int) → List (List Int) → Int → Option (Bool)
 | 0, _, _, _ => none
 | k + 1, x0, x1, x5 => if x5 < (x0.length : Int) then (if 0 ≤ x5 then (if x5 < (x1.length : Int) then ((r04_Same.f k (rd_L11 x0 x5) (rd_L11 x1 x5)).bind fun aq => (if aq = true then (r04_Lists.l0 k x0 x1 (wrap64 (x5 + 1))) else (some false))) else (none)) else (none)) else (some true)
def r04_Lists.f (k : Nat) (l0 : List (List Int)) (l1 : List (List Int)) : Option (Bool) := if (l0.length : Int) = (l1.length : Int) then (r04_Lists.l0 k l0 l1 0) else (some false)
theorem r04_Lists.mono_l : ∀ k, M3 r04_Lists.l0 k
 | 0 => fun _ _ _ r h => by simp [r04_Lists.l0] at h
 | k + 1 => by
  have az := r04_Lists.mono_l k
  ·intro y0 y1 y2
   unfold r04_Lists.l0
   repeat' first | (with_reducible first | apply az | apply r04_Same.mono | apply lr | apply ln | apply li | refine lb ?_ fun _ => ?_)
theorem r04_Lists.mono : ∀ a0 a1 k, LeO (r04_Lists.f k a0 a1) (r04_Lists.f (k + 1) a0 a1) := by
 intro a0 a1 k
 have az := r04_Lists.mono_l k
 unfold r04_Lists.f
 repeat' first | (with_reducible first | apply az | apply r04_Same.mono | apply lr | apply ln | apply li | refine lb ?_ fun _ => ?_)
set_option maxHeartbeats 8000000 in
set_option maxRecDepth 100000 in
theorem r04_Lists.calls (k : Nat) (A0 : Option Addr) (c0 : Nat) (l0 : List (List Int)) (A1 : Option Addr) (c1 : Nat) (l1 : List (List Int)) (r : Bool) (w : World) (aI : Kd.C (Kd.slice 3 (Kd.int .i64)) w A0 l0.length l0) (hc0 : l0.length ≤ c0) (hr1 : Kd.C (Kd.slice 3 (Kd.int .i64)) w A1 l1.length l1) (aH : l1.length ≤ c1) (h : r04_Lists.f k l0 l1 = some r) :
  Calls Try.prog 16 #[.slice A0 l0.length c0, .slice A1 l1.length c1] w fun e w' => e = .returned (.bool r) ∧ Drawn0 w w' := by
 have aF := am aI
 have aL := am hc0
 clear aI hc0
 have aG := am hr1
 have aM := am aH
 clear hr1 aH
 have H := h
 unfold r04_Lists.f at H
 clear h
 by_cases c3 : (l0.length : Int) = (l1.length : Int)
 rotate_left
 ·rw [if_neg c3] at H
  have av : ((l0.length : Int) == (l1.length : Int)) = false := beq_eq_false_iff_ne.mpr c3
  have aw : ((l0.length : Int) != (l1.length : Int)) = true := bne_iff_ne.mpr c3
  have ax : (l0.length == l1.length) = false := by first | simpa using c3 | (simp at c3 ⊢; omega)
  obtain rfl := Option.some.inj H
  go_enter Try.func16, Try.ntmps16
  go_wp2
  repeat (go_quiet (fail); try go_wp2)
  go_ret
  exact ⟨prs, pdr⟩
 rw [if_pos c3] at H
 have av : ((l0.length : Int) == (l1.length : Int)) = true := beq_iff_eq.mpr c3
 have aw : ((l0.length : Int) != (l1.length : Int)) = false := bne_eq_false_iff_eq.mpr c3
 have ax : (l0.length == l1.length) = true := by first | simpa using c3 | (simp at c3 ⊢; omega)
 clear c3
 have H' := am H
 clear H
 go_enter Try.func16, Try.ntmps16
 go_wp2
 repeat (go_quiet (fail); try go_wp2)
 go_loopg [5] k (fun kq v5 w' => ∃ (aa : Int), v5 = .int .i64 aa ∧ Aside0 (r04_Lists.l0 kq l0 l1 aa = some r) ∧ Aside0 (kq ≤ k) ∧ Drawn0 w w')
 case atStart => exact ⟨(0), prs, H', ⟨Nat.le_refl _⟩, pdr⟩
 clear H'
 try clear c1 c3 av aw ax
 obtain ⟨aa, rfl, HA, aE, ⟨m1, rfl⟩⟩ := hrel
 obtain _ | k1 := gk
 ·exact absurd HA.1 (by simp [r04_Lists.l0])
 have H := HA.1
 clear HA
 simp only [r04_Lists.l0] at H
 replace H := ifl H
 rcases H with ⟨ay, H⟩ | ⟨ay, H⟩
 rotate_left
 ·obtain rfl := Option.some.inj H
  go_wp2
  repeat (go_quiet (fail); try go_wp2)
  go_ret
  exact ⟨prs, pdr⟩
 replace H := ifp H
 obtain ⟨c5, H⟩ := H
 have aJ := decide_eq_true c5
 clear c5
 replace H := ifp H
 obtain ⟨c6, H⟩ := H
 have aK := decide_eq_true c6
 clear c6
 replace H := bnd H
 obtain ⟨aq, A7, H⟩ := H
 (try dsimp only at H)
 cases aq
 ·rw [if_neg Bool.false_ne_true] at H
  obtain rfl := Option.some.inj H
  obtain ⟨aA, aC, ar, ai, ak, ao, ag, ab, ae⟩ := dL11 aF.1 aa
  cases ao
  obtain ⟨aB, aD, au, aj, al, ap, ah, ac, af⟩ := dL11 aG.1 aa
  cases ap
  iterate 4 (try go_wp2_with (first | (go_at_call 19; (with_reducible refine (r04_Same.calls k1 _ _ (rd_L11 l0 aa) _ _ (rd_L11 l1 aa) false _ ?side1 ?side2 ?side3 ?side4 A7.1).mono ?_); (case side1 => exact csd ae.1); (case side2 => exact ab.1); (case side3 => exact csd af.1); (case side4 => exact ac.1); rintro e w' ⟨rfl, ⟨nd, rfl⟩⟩; (try first | exact ⟨rfl, _, World.drewN_drewN _ _ _⟩ | exact ⟨rfl, _, Eq.trans (World.drewN_drewN _ _ _) (congrArg (World.drewN _) (Nat.add_assoc _ _ _))⟩))); try go_quiet (first | (go_at_call 19; (with_reducible refine (r04_Same.calls k1 _ _ (rd_L11 l0 aa) _ _ (rd_L11 l1 aa) false _ ?side1 ?side2 ?side3 ?side4 A7.1).mono ?_); (case side1 => exact csd ae.1); (case side2 => exact ab.1); (case side3 => exact csd af.1); (case side4 => exact ac.1); rintro e w' ⟨rfl, ⟨nd, rfl⟩⟩; (try first | exact ⟨rfl, _, World.drewN_drewN _ _ _⟩ | exact ⟨rfl, _, Eq.trans (World.drewN_drewN _ _ _) (congrArg (World.drewN _) (Nat.add_assoc _ _ _))⟩))))
  go_ret
  exact ⟨prs, pdr⟩
 rw [if_pos rfl] at H
 have H' := am H
 clear H
 obtain ⟨aA, aC, ar, ai, ak, ao, ag, ab, ae⟩ := dL11 aF.1 aa
 cases ao
 obtain ⟨aB, aD, au, aj, al, ap, ah, ac, af⟩ := dL11 aG.1 aa
 cases ap
 iterate 4 (try go_wp2_with (first | (go_at_call 19; (with_reducible refine (r04_Same.calls k1 _ _ (rd_L11 l0 aa) _ _ (rd_L11 l1 aa) true _ ?side1 ?side2 ?side3 ?side4 A7.1).mono ?_); (case side1 => exact csd ae.1); (case side2 => exact ab.1); (case side3 => exact csd af.1); (case side4 => exact ac.1); rintro e w' ⟨rfl, ⟨nd, rfl⟩⟩; (try first | exact ⟨rfl, _, World.drewN_drewN _ _ _⟩ | exact ⟨rfl, _, Eq.trans (World.drewN_drewN _ _ _) (congrArg (World.drewN _) (Nat.add_assoc _ _ _))⟩))); try go_quiet (first | (go_at_call 19; (with_reducible refine (r04_Same.calls k1 _ _ (rd_L11 l0 aa) _ _ (rd_L11 l1 aa) true _ ?side1 ?side2 ?side3 ?side4 A7.1).mono ?_); (case side1 => exact csd ae.1); (case side2 => exact ab.1); (case side3 => exact csd af.1); (case side4 => exact ac.1); rintro e w' ⟨rfl, ⟨nd, rfl⟩⟩; (try first | exact ⟨rfl, _, World.drewN_drewN _ _ _⟩ | exact ⟨rfl, _, Eq.trans (World.drewN_drewN _ _ _) (congrArg (World.drewN _) (Nat.add_assoc _ _ _))⟩))))
 go_roundg k1
 case measure => have := aE.1; omega
 case rel => exact ⟨(wrap64 (aa + 1)), prs, H', ⟨by have := aE.1; omega⟩, pdr⟩

/-! ### net_Name: function 92 -/
-- IMPORTS Derived.Laws.RangeString
/-- A byte of a name, at its place. -/
def nameC (i c : Int) : Bool := (decide (97 ≤ c) && decide (c ≤ 122)) || c == 95 || (decide (0 < i) && ((decide (48 ≤ c) && decide (c ≤ 57)) || c == 46))
def nameB (s : ByteArray) : Bool := decide (1 ≤ s.size) && decide (s.size ≤ 16) && (List.range s.size).all fun i => nameC (i : Int) (bt s (i : Int))
def net_Name.f (a0 : ByteArray) : Option Bool := some (nameB a0)
/-- A sign that is no single byte is none of a name. -/
theorem decode_far (s : ByteArray) (pos : Nat) (h : pos < s.size) (ha : ¬ (s[pos]'h).toNat < 128) : ¬ (Utf8.decode s pos).1 < 128 := by
 have e : s.get! (pos + 0) = s[pos]'h := by
  show s.get! pos = _
  simp [ByteArray.get!, getElem!_pos, h]
  rfl
 unfold Utf8.decode
 simp only [e]
 rw [if_neg ha]
 repeat' first | split
 all_goals simp_all [Utf8.runeError]
 all_goals omega
theorem next_some {b pos : Nat} {s : ByteArray} {W : World} (P : Program) (ty : TypeId) (hb : W.heap[b]? = some (.stringIter s pos)) (h : pos < s.size) :
  (Instr.next (.pointer (some ⟨b, 0, none⟩)) true ty).run P W = .ok (.tuple #[.bool true, .int .i64 pos, .int .i32 (Utf8.decode s pos).1]) { W with heap := W.heap.setIfInBounds b (.stringIter s (pos + (Utf8.decode s pos).2)) } := by
 simp [Instr.next, getObj, setObj, Sem.run, hb, h, goInt]
theorem next_none {b pos : Nat} {s : ByteArray} {W : World} (P : Program) (ty : TypeId) (hb : W.heap[b]? = some (.stringIter s pos)) (h : ¬ pos < s.size) :
  (Instr.next (.pointer (some ⟨b, 0, none⟩)) true ty).run P W = .ok (.tuple #[.bool false]) W := by
 simp [Instr.next, getObj, Sem.run, hb, h]
theorem iter_step {w wr w2 : World} {b pos pos' : Nat} {s : ByteArray} (hb : wr.heap[b]? = some (.stringIter s pos)) (hB : Below w.heap.size w wr) (hn : w.heap.size ≤ b) (h : w2 = { wr with heap := wr.heap.setIfInBounds b (.stringIter s pos') }) :
  w2.heap[b]? = some (.stringIter s pos') ∧ Below w.heap.size w w2 := by
 subst h
 refine ⟨?_, hB.os, hB.tape, hB.output, by simpa using hB.size, fun k hk => ?_⟩
 ·obtain ⟨h1, h2⟩ := Array.getElem?_eq_some_iff.mp hb
  simp [Array.getElem?_setIfInBounds, h1]
 ·rw [← hB.block k hk]
  show (wr.heap.setIfInBounds b _)[k]? = _
  rw [Array.getElem?_setIfInBounds, if_neg (by omega)]
theorem nameB_no {s : ByteArray} {i : Nat} (hi : i < s.size) (h : nameC (i : Int) (bt s (i : Int)) = false) : nameB s = false := by
 unfold nameB
 rw [Bool.and_eq_false_iff]
 refine .inr (Bool.eq_false_iff.2 fun e => ?_)
 have := List.all_eq_true.1 e i (List.mem_range.2 hi)
 rw [h] at this
 cases this
theorem nameB_yes {s : ByteArray} (h1 : 1 ≤ s.size) (h2 : s.size ≤ 16) (h : ∀ i, i < s.size → nameC (i : Int) (bt s (i : Int)) = true) : nameB s = true := by
 unfold nameB
 rw [decide_eq_true h1, decide_eq_true h2, Bool.true_and, Bool.true_and]
 exact List.all_eq_true.2 fun i hi => h i (List.mem_range.1 hi)
/-- The sign at a place: its first byte if that is a sign, and none of a name otherwise. -/
theorem sign_at (s : ByteArray) (pos : Nat) (h : pos < s.size) (i : Int) : nameC i ((Utf8.decode s pos).1 : Int) = nameC i (bt s (pos : Int)) ∧ (nameC i ((Utf8.decode s pos).1 : Int) = true → (Utf8.decode s pos).2 = 1) := by
 have hb : bt s (pos : Int) = ((s[pos]'h).toNat : Int) := by unfold bt; rw [dif_pos (by simpa using h)]; simp
 by_cases ha : (s[pos]'h).toNat < 128
 ·rw [decode_ascii s pos h ha]
  exact ⟨by rw [hb], fun _ => rfl⟩
 ·have hf := decode_far s pos h ha
  have no : ∀ c : Int, ¬ c < 128 → nameC i c = false := fun c hc => by
   unfold nameC
   rw [decide_eq_false (show ¬ c ≤ 122 by omega), decide_eq_false (show ¬ c ≤ 57 by omega), beq_eq_false_iff_ne.2 (show c ≠ 95 by omega), beq_eq_false_iff_ne.2 (show c ≠ 46 by omega)]
   simp
  rw [no _ (by omega), no (bt s (pos : Int)) (by rw [hb]; omega)]
  exact ⟨rfl, fun h => by cases h⟩

set_option maxHeartbeats 4000000 in
set_option maxRecDepth 100000 in
theorem net_Name.calls (a0 : ByteArray) (r : Bool) (w : World) (h : net_Name.f a0 = some r) :
  Calls Try.prog 92 #[.string a0] w fun e w' => e = .returned (.bool r) ∧ Below w.heap.size w w' := by
 have hr : nameB a0 = r := Option.some.inj h
 have HR := Aside0.mk hr
 clear h hr
 by_cases c1 : (a0.size : Int) < 1
 ·have hf : nameB a0 = false := by unfold nameB; rw [decide_eq_false (by omega)]; rfl
  have c1b : decide ((a0.size : Int) < 1) = true := decide_eq_true c1
  have c1c : decide (a0.size < 1) = true := decide_eq_true (by omega)
  have aa := Aside0.mk (HR.out.symm.trans hf)
  clear hf HR c1
  go_enter Try.func92, Try.ntmps92
  go_wp2
  go_ret
  have e_ := aa.out
  subst e_
  exact ⟨rfl, Below.refl _ _⟩
 ·have c1b : decide ((a0.size : Int) < 1) = false := decide_eq_false c1
  have c1c : decide (a0.size < 1) = false := decide_eq_false (by omega)
  by_cases c2 : (16 : Int) < (a0.size : Int)
  ·have hf : nameB a0 = false := by unfold nameB; rw [decide_eq_false (show ¬ a0.size ≤ 16 by omega)]; simp
   have c2b : decide ((16 : Int) < (a0.size : Int)) = true := decide_eq_true c2
   have c2c : decide (16 < a0.size) = true := decide_eq_true (by omega)
   have aa := Aside0.mk (HR.out.symm.trans hf)
   clear hf HR c1 c2
   go_enter Try.func92, Try.ntmps92
   go_wp2
   go_ret
   have e_ := aa.out
   subst e_
   exact ⟨rfl, Below.refl _ _⟩
  ·have c2b : decide ((16 : Int) < (a0.size : Int)) = false := decide_eq_false c2
   have c2c : decide (16 < a0.size) = false := decide_eq_false (by omega)
   have S1 := Aside0.mk (show 1 ≤ a0.size by omega)
   have S2 := Aside0.mk (show a0.size ≤ 16 by omega)
   clear c1 c2
   go_enter Try.func92, Try.ntmps92
   go_wp2
   have HI := Aside0.mk (show (w.iter a0 0).heap[w.heap.size]? = some (.stringIter a0 0) from World.iter_heap w a0 0)
   have HB := Aside0.mk (show Below w.heap.size w (w.iter a0 0) from below_alloc (Below.refl _ _) _)
   go_loopg [3] a0.size (fun kq v3 w' => ∃ pos : Nat, Aside0 (kq = a0.size - pos) ∧ Aside0 (w'.heap[w.heap.size]? = some (.stringIter a0 pos)) ∧ Aside0 (∀ i, i < pos → nameC (i : Int) (bt a0 (i : Int)) = true) ∧ Aside0 (Below w.heap.size w w'))
   case atStart => exact ⟨0, ⟨rfl⟩, HI, ⟨fun i hi => absurd hi (Nat.not_lt_zero _)⟩, HB⟩
   case round =>
    clear HI HB
    obtain ⟨pos, HK, HI, HO, HB⟩ := hrel
    by_cases d1 : pos < a0.size
    case neg =>
     have hnx := fun ty => next_none Try.prog ty HI.out d1
     have aa := Aside0.mk (HR.out.symm.trans (nameB_yes S1.out S2.out (fun i hi => HO.out i (by omega))))
     clear d1
     go_wp2
     go_ret
     have e_ := aa.out
     subst e_
     exact ⟨rfl, HB.out⟩
    have ae := fun ty => next_some Try.prog ty HI.out d1
    obtain ⟨ag, ah⟩ := sign_at a0 pos d1 (pos : Int)
    obtain ⟨w2, af⟩ : ∃ w2 : World, w2 = { wr with heap := wr.heap.setIfInBounds w.heap.size (.stringIter a0 (pos + (Utf8.decode a0 pos).2)) } := ⟨_, rfl⟩
    have hit := iter_step HI.out HB.out (Nat.le_refl _) af
    obtain ⟨c, hc⟩ : ∃ c : Int, c = ((Utf8.decode a0 pos).1 : Int) := ⟨_, rfl⟩
    have hnx : ∀ ty, (Instr.next (.pointer (some ⟨w.heap.size, 0, none⟩)) true ty).run Try.prog wr = .ok (.tuple #[.bool true, .int .i64 pos, .int .i32 c]) w2 := fun ty => by rw [af, hc]; exact ae ty
    rw [← hc] at ag ah
    have ab := Aside0.mk ag
    have ac := Aside0.mk ah
    have HIT := Aside0.mk hit
    have D1 := Aside0.mk d1
    clear ag ah hit ae hc af d1
    cases e1 : decide (97 ≤ c) with
    | true =>
     cases e2 : decide (c ≤ 122) with
     | true =>
      have OK := Aside0.mk (show nameC (pos : Int) c = true by unfold nameC; rw [e1, e2]; rfl)
      go_wp2
      go_roundg (a0.size - (pos + 1))
      case measure => have := HK.out; have := D1.out; omega
      case rel =>
       have h1 := HIT.out.1
       rw [ac.out OK.out] at h1
       refine ⟨pos + 1, ⟨rfl⟩, ⟨h1⟩, ⟨fun i hi => ?_⟩, ⟨HIT.out.2⟩⟩
       by_cases e : i = pos
       ·subst e; exact ab.out.symm.trans OK.out
       ·exact HO.out i (by omega)
     | false =>
      cases e3 : (c == 95) with
      | true =>
       have OK := Aside0.mk (show nameC (pos : Int) c = true by unfold nameC; rw [e1, e2, e3]; rfl)
       go_wp2
       go_roundg (a0.size - (pos + 1))
       case measure => have := HK.out; have := D1.out; omega
       case rel =>
        have h1 := HIT.out.1
        rw [ac.out OK.out] at h1
        refine ⟨pos + 1, ⟨rfl⟩, ⟨h1⟩, ⟨fun i hi => ?_⟩, ⟨HIT.out.2⟩⟩
        by_cases e : i = pos
        ·subst e; exact ab.out.symm.trans OK.out
        ·exact HO.out i (by omega)
      | false =>
       cases e4 : decide (0 < (pos : Int)) with
       | true =>
        have e4n : decide (0 < pos) = true := (decide_eq_decide.2 (by omega)).trans e4
        cases e5 : decide (48 ≤ c) with
        | true =>
         cases e6 : decide (c ≤ 57) with
         | true =>
          have OK := Aside0.mk (show nameC (pos : Int) c = true by unfold nameC; rw [e1, e2, e3, e4, e5, e6]; rfl)
          go_wp2
          go_roundg (a0.size - (pos + 1))
          case measure => have := HK.out; have := D1.out; omega
          case rel =>
           have h1 := HIT.out.1
           rw [ac.out OK.out] at h1
           refine ⟨pos + 1, ⟨rfl⟩, ⟨h1⟩, ⟨fun i hi => ?_⟩, ⟨HIT.out.2⟩⟩
           by_cases e : i = pos
           ·subst e; exact ab.out.symm.trans OK.out
           ·exact HO.out i (by omega)
         | false =>
          cases e7 : (c == 46) with
          | true =>
           have OK := Aside0.mk (show nameC (pos : Int) c = true by unfold nameC; rw [e1, e2, e3, e4, e5, e6, e7]; rfl)
           go_wp2
           go_roundg (a0.size - (pos + 1))
           case measure => have := HK.out; have := D1.out; omega
           case rel =>
            have h1 := HIT.out.1
            rw [ac.out OK.out] at h1
            refine ⟨pos + 1, ⟨rfl⟩, ⟨h1⟩, ⟨fun i hi => ?_⟩, ⟨HIT.out.2⟩⟩
            by_cases e : i = pos
            ·subst e; exact ab.out.symm.trans OK.out
            ·exact HO.out i (by omega)
          | false =>
           have aa := Aside0.mk (HR.out.symm.trans (nameB_no D1.out (ab.out.symm.trans (show nameC (pos : Int) c = false by unfold nameC; rw [e1, e2, e3, e4, e5, e6, e7]; rfl))))
           go_wp2
           go_ret
           have e_ := aa.out
           subst e_
           exact ⟨rfl, HIT.out.2⟩
        | false =>
         cases e7 : (c == 46) with
         | true =>
          have OK := Aside0.mk (show nameC (pos : Int) c = true by unfold nameC; rw [e1, e2, e3, e4, e5, e7]; rfl)
          go_wp2
          go_roundg (a0.size - (pos + 1))
          case measure => have := HK.out; have := D1.out; omega
          case rel =>
           have h1 := HIT.out.1
           rw [ac.out OK.out] at h1
           refine ⟨pos + 1, ⟨rfl⟩, ⟨h1⟩, ⟨fun i hi => ?_⟩, ⟨HIT.out.2⟩⟩
           by_cases e : i = pos
           ·subst e; exact ab.out.symm.trans OK.out
           ·exact HO.out i (by omega)
         | false =>
          have aa := Aside0.mk (HR.out.symm.trans (nameB_no D1.out (ab.out.symm.trans (show nameC (pos : Int) c = false by unfold nameC; rw [e1, e2, e3, e4, e5, e7]; rfl))))
          go_wp2
          go_ret
          have e_ := aa.out
          subst e_
          exact ⟨rfl, HIT.out.2⟩
       | false =>
        have e4n : decide (0 < pos) = false := (decide_eq_decide.2 (by omega)).trans e4
        have aa := Aside0.mk (HR.out.symm.trans (nameB_no D1.out (ab.out.symm.trans (show nameC (pos : Int) c = false by unfold nameC; rw [e1, e2, e3, e4]; rfl))))
        go_wp2
        go_ret
        have e_ := aa.out
        subst e_
        exact ⟨rfl, HIT.out.2⟩
    | false =>
     cases e3 : (c == 95) with
     | true =>
      have OK := Aside0.mk (show nameC (pos : Int) c = true by unfold nameC; rw [e1, e3]; rfl)
      go_wp2
      go_roundg (a0.size - (pos + 1))
      case measure => have := HK.out; have := D1.out; omega
      case rel =>
       have h1 := HIT.out.1
       rw [ac.out OK.out] at h1
       refine ⟨pos + 1, ⟨rfl⟩, ⟨h1⟩, ⟨fun i hi => ?_⟩, ⟨HIT.out.2⟩⟩
       by_cases e : i = pos
       ·subst e; exact ab.out.symm.trans OK.out
       ·exact HO.out i (by omega)
     | false =>
      cases e4 : decide (0 < (pos : Int)) with
      | true =>
       have e4n : decide (0 < pos) = true := (decide_eq_decide.2 (by omega)).trans e4
       cases e5 : decide (48 ≤ c) with
       | true =>
        cases e6 : decide (c ≤ 57) with
        | true =>
         have OK := Aside0.mk (show nameC (pos : Int) c = true by unfold nameC; rw [e1, e3, e4, e5, e6]; rfl)
         go_wp2
         go_roundg (a0.size - (pos + 1))
         case measure => have := HK.out; have := D1.out; omega
         case rel =>
          have h1 := HIT.out.1
          rw [ac.out OK.out] at h1
          refine ⟨pos + 1, ⟨rfl⟩, ⟨h1⟩, ⟨fun i hi => ?_⟩, ⟨HIT.out.2⟩⟩
          by_cases e : i = pos
          ·subst e; exact ab.out.symm.trans OK.out
          ·exact HO.out i (by omega)
        | false =>
         cases e7 : (c == 46) with
         | true =>
          have OK := Aside0.mk (show nameC (pos : Int) c = true by unfold nameC; rw [e1, e3, e4, e5, e6, e7]; rfl)
          go_wp2
          go_roundg (a0.size - (pos + 1))
          case measure => have := HK.out; have := D1.out; omega
          case rel =>
           have h1 := HIT.out.1
           rw [ac.out OK.out] at h1
           refine ⟨pos + 1, ⟨rfl⟩, ⟨h1⟩, ⟨fun i hi => ?_⟩, ⟨HIT.out.2⟩⟩
           by_cases e : i = pos
           ·subst e; exact ab.out.symm.trans OK.out
           ·exact HO.out i (by omega)
         | false =>
          have aa := Aside0.mk (HR.out.symm.trans (nameB_no D1.out (ab.out.symm.trans (show nameC (pos : Int) c = false by unfold nameC; rw [e1, e3, e4, e5, e6, e7]; rfl))))
          go_wp2
          go_ret
          have e_ := aa.out
          subst e_
          exact ⟨rfl, HIT.out.2⟩
       | false =>
        cases e7 : (c == 46) with
        | true =>
         have OK := Aside0.mk (show nameC (pos : Int) c = true by unfold nameC; rw [e1, e3, e4, e5, e7]; rfl)
         go_wp2
         go_roundg (a0.size - (pos + 1))
         case measure => have := HK.out; have := D1.out; omega
         case rel =>
          have h1 := HIT.out.1
          rw [ac.out OK.out] at h1
          refine ⟨pos + 1, ⟨rfl⟩, ⟨h1⟩, ⟨fun i hi => ?_⟩, ⟨HIT.out.2⟩⟩
          by_cases e : i = pos
          ·subst e; exact ab.out.symm.trans OK.out
          ·exact HO.out i (by omega)
        | false =>
         have aa := Aside0.mk (HR.out.symm.trans (nameB_no D1.out (ab.out.symm.trans (show nameC (pos : Int) c = false by unfold nameC; rw [e1, e3, e4, e5, e7]; rfl))))
         go_wp2
         go_ret
         have e_ := aa.out
         subst e_
         exact ⟨rfl, HIT.out.2⟩
      | false =>
       have e4n : decide (0 < pos) = false := (decide_eq_decide.2 (by omega)).trans e4
       have aa := Aside0.mk (HR.out.symm.trans (nameB_no D1.out (ab.out.symm.trans (show nameC (pos : Int) c = false by unfold nameC; rw [e1, e3, e4]; rfl))))
       go_wp2
       go_ret
       have e_ := aa.out
       subst e_
       exact ⟨rfl, HIT.out.2⟩

/-! ### net_Check: function 62 -/
-- IMPORTS Derived.RegionTactic,Derived.BigRegion,Derived.Laws.EntriesVeiled
/-- The names so far, in a variable of the call's own; what else stood there stays. -/
structure NInv (w0 w : World) (Bn : Nat) (ns : List ByteArray) : Prop where
 t : ∃ v, w.heap[Bn]? = some (.cells #[v] 109 (0, 0)) ∧ Kd.R Kd.string 9 w w0.heap.size (fun _ => True) v ns
 B : Below w0.heap.size w0 w
 b : w0.heap.size ≤ Bn
def Others (w w1 : World) : Prop := w.heap.size ≤ w1.heap.size ∧ ∀ (a : Nat) (c : Array Value) (t : Nat), w.heap[a]? = some (.cells c t (0, 0)) → t ≠ 109 → t ≠ 9 → w1.heap[a]? = some (.cells c t (0, 0))
theorem Others.trans {a b c : World} (h : Others a b) (k : Others b c) : Others a c := ⟨Nat.le_trans h.1 k.1, fun x cs t h1 h2 h3 => k.2 x cs t (h.2 x cs t h1 h2 h3) h2 h3⟩
theorem Others.below {w w1 : World} (hb : Below w.heap.size w w1) : Others w w1 := ⟨hb.size, fun a c t h _ _ => blk_below h hb⟩
theorem NInv.below {w0 w w1 : World} {Bn : Nat} {ns : List ByteArray} (h : NInv w0 w Bn ns) (hb : Below w.heap.size w w1) : NInv w0 w1 Bn ns := by
 obtain ⟨⟨v, h1, h2⟩, B, b⟩ := h
 exact ⟨⟨v, blk_below h1 hb, Kd.R_below h2 hb⟩, B.trans (hb.mono B.size), b⟩
theorem NInv.push {w0 w w1 : World} {Bn : Nat} {ns ns' : List ByteArray} (h : NInv w0 w Bn ns) {v v1 : Value} (hT : Kd.R Kd.string 9 w w0.heap.size (fun _ => True) v ns)
  (h1 : Kd.R Kd.string 9 w1 w0.heap.size (fun _ => True) v1 ns') (hb : Below w0.heap.size w0 w1) (hg : w.grownBy w1 v.ownBlock) : NInv w0 (w1.setCell ⟨Bn, 0, none⟩ v1) Bn ns' ∧ Others w (w1.setCell ⟨Bn, 0, none⟩ v1) ∧ w1.cell? ⟨Bn, 0, none⟩ ≠ none ∧ w1.frozen? ⟨Bn, 0, none⟩ = false := by
 obtain ⟨⟨vt, h3, h4⟩, B, b⟩ := h
 have e3 := grown_blk h3 (Kd.R_typed hT) (by decide) hg
 refine ⟨⟨⟨v1, one_setCell e3, Kd.R_set h1 e3 (by decide) _ _⟩, below_set hb b, b⟩, ⟨by simpa using hg.size, fun a c t ha t1 t2 => ?_⟩, by rw [cell_of_one e3]; simp, free_of_one e3⟩
 have ea := grown_blk ha (Kd.R_typed hT) t2 hg
 exact blk_over ea (blk_apart ea e3 t1) _
/-- One more name: an error, or the names with it. -/
def addM (ns : List ByteArray) (s : ByteArray) : Option (Int × List ByteArray) :=
 if nameB s = true then (if (ns.any fun o => o.toList == s.toList) = true then some (6, ns) else (if ns.length < 1000000 then some (0, ns ++ [s]) else none)) else some (5, ns)
theorem any_step (ns : List ByteArray) (s : ByteArray) (i : Nat) (hi : i < ns.length) : ((ns.drop i).any fun o => o.toList == s.toList) = (((rdOf ByteArray.empty ns (i : Int)).toList == s.toList) || ((ns.drop (i + 1)).any fun o => o.toList == s.toList)) := by
 rw [List.drop_eq_getElem_cons hi, List.any_cons]
 unfold rdOf
 rw [Int.toNat_natCast, List.getD_eq_getElem?_getD, List.getElem?_eq_getElem hi]
 rfl

set_option maxHeartbeats 1000000 in
set_option maxRecDepth 100000 in
theorem add_calls (w0 w : World) (Bn : Nat) (ns : List ByteArray) (s : ByteArray) (p : Int × List ByteArray) (h : NInv w0 w Bn ns) (hp : addM ns s = some p) :
  Calls Try.prog 93 #[.string s, .pointer (some ⟨Bn, 0, none⟩)] w fun e w' => e = .returned (.int .i64 p.1) ∧ NInv w0 w' Bn p.2 ∧ Others w w' := by
 have HV := Aside0.mk h
 clear h
 unfold addM at hp
 by_cases c1 : nameB s = true
 case neg =>
  rw [if_neg c1] at hp
  cases hp
  have HN := Aside0.mk (show net_Name.f s = some false by unfold net_Name.f; rw [Bool.not_eq_true] at c1; rw [c1])
  clear c1
  go_enter Try.func93, Try.ntmps93
  go_wp2_with (first | (go_at_call 92; refine (net_Name.calls _ _ _ HN.out).mono ?_; rintro e w' ⟨rfl, hb⟩; have HB := Aside0.mk hb; clear hb))
  go_ret
  exact ⟨rfl, HV.out.below HB.out, Others.below HB.out⟩
 rw [if_pos c1] at hp
 have HN := Aside0.mk (show net_Name.f s = some true by unfold net_Name.f; rw [c1])
 have HP := Aside0.mk hp
 clear c1 hp
 go_enter Try.func93, Try.ntmps93
 go_wp2_with (first | (go_at_call 92; refine (net_Name.calls _ _ _ HN.out).mono ?_; rintro e w1 ⟨rfl, hb⟩; have aA := Aside0.mk (HV.out.below hb); have aJ := Aside0.mk (Others.below hb); obtain ⟨vt, aQ, aR⟩ := aA.out.t; obtain ⟨At, ct, rfl⟩ := Kd.R_slice aR; have a7 := cell_of_one aQ; have HC := Aside0.mk aQ; have HT := Aside0.mk aR; clear hb aQ aR))
 clear HV
 have HD := Aside0.mk (show (ns.any fun o => o.toList == s.toList) = ((ns.drop 0).any fun o => o.toList == s.toList) by rw [List.drop_zero])
 go_loopg [11] ns.length (fun kq bf w' => ∃ i : Nat, bf = .int .i64 i ∧ Aside0 (kq = ns.length - i) ∧ Aside0 (i ≤ ns.length) ∧ Aside0 ((ns.any fun o => o.toList == s.toList) = ((ns.drop i).any fun o => o.toList == s.toList)) ∧ Aside0 (w'.heap[Bn]? = some (.cells #[.slice At ns.length ct] 109 (0, 0))) ∧ Aside0 (Kd.R Kd.string 9 w' w0.heap.size (fun _ => True) (.slice At ns.length ct) ns) ∧ Aside0 (NInv w0 w' Bn ns) ∧ Aside0 (Others w w'))
 case atStart => exact ⟨0, rfl, ⟨rfl⟩, ⟨Nat.zero_le _⟩, HD, HC, HT, aA, aJ⟩
 case round =>
  clear HD HC HT aA aJ a7
  obtain ⟨i, rfl, HK, HI, HD, HC, HT, aA, aJ⟩ := hrel
  by_cases d1 : i < ns.length
  ·have d1b : decide ((i : Int) < (ns.length : Int)) = true := decide_eq_true (by omega)
   have d1c : decide (i < ns.length) = true := decide_eq_true d1
   obtain ⟨gt, gc, eg, _, _, _⟩ := Kd.R_form HT.out (by omega)
   injection eg with eg _ a8
   subst eg a8
   obtain ⟨y1, y2⟩ := Kd.R_celln ByteArray.empty HT.out (i : Int) (by omega) (by omega)
   have HS := Aside0.mk (any_step ns s i d1)
   have D1 := Aside0.mk d1
   rw [Int.toNat_natCast] at y1 y2
   have HM := Aside0.mk (Kd.R_reads' HT.out).2.2.2.1
   cases d2 : ((rdOf ByteArray.empty ns (i : Int)).toList == s.toList) with
   | true =>
    have aN := Aside0.mk (show p = (6, ns) by
     have hp := HP.out
     rw [HD.out, HS.out, d2] at hp
     simpa using hp.symm)
    clear HP
    go_wp2
    go_ret
    have e_ := aN.out
    subst e_
    exact ⟨rfl, aA.out, aJ.out⟩
   | false =>
    go_wp2
    go_roundg (ns.length - (i + 1))
    case measure => have := HK.out; have := D1.out; omega
    case rel => exact ⟨i + 1, by congr 1; have := HM.out; have := D1.out; (first | omega | (unfold wrap64; omega) | (show wrap64 _ = _; unfold wrap64; omega)), ⟨rfl⟩, ⟨D1.out⟩, ⟨by rw [HD.out, HS.out, d2, Bool.false_or]⟩, HC, HT, aA, aJ⟩
  ·have d1b : decide ((i : Int) < (ns.length : Int)) = false := decide_eq_false (by omega)
   have d1c : decide (i < ns.length) = false := decide_eq_false d1
   have hp := HP.out
   have hd : (ns.any fun o => o.toList == s.toList) = false := by rw [HD.out, List.drop_eq_nil_of_le (by omega)]; rfl
   rw [hd, if_neg Bool.false_ne_true] at hp
   by_cases d3 : ns.length < 1000000
   case neg => rw [if_neg d3] at hp; cases hp
   rw [if_pos d3] at hp
   have aN := Aside0.mk (Option.some.inj hp).symm
   have D3 := Aside0.mk d3
   have cb := cell_of_one HC.out
   clear hp hd HP d3
   go_wp2_with (first
    | ((with_reducible refine gate_builtin (b := .append) (xs := #[.tmp 19, .tmp 21]) rfl ?_); at_builtin; refine Kd.R_append Kd.string (w0 := w0) w0.heap.size rfl (.tmp 19) (.tmp 21) 109 9 (.string ⟨#[]⟩) 16 rfl Try.underlying109 info9 rfl (by decide) (by omega) (.slice At ns.length ct) ns s [.string s] (fun _ => True) (fun _ => False) rfl rfl ?aP (fun _ hk => hk.elim) ?aF ?aO ?aB ?aS ?aL ?_; (case aP => exact rfl); (case aF => exact (fun _ _ => trivial)); (case aO => exact HT.out); (case aB => exact aA.out.B); (case aS => exact aA.out.B.size); (case aL => have := D3.out; omega); intro v2 w2 ho hb hg hat; obtain ⟨A2, k2, rfl⟩ := Kd.R_slice ho; have HX := Aside0.mk (NInv.push aA.out HT.out ho hb hg); obtain ⟨c2, bk⟩ := Option.ne_none_iff_exists'.mp HX.out.2.2.1; have hf2 := HX.out.2.2.2; clear ho hb hg hat))
   go_ret
   have e_ := aN.out
   subst e_
   have x_ := HX.out
   rw [List.length_append] at x_
   exact ⟨rfl, x_.1, aJ.out.trans x_.2.1⟩

def net_Check.l1 : Nat → List S64 → List S38 → List ByteArray → Int → Option (Int × Int)
 | 0, _, _, _, _ => none
 | k + 1, l1, l2, ns, i => if i < (l2.length : Int) then (if 0 ≤ i then ((addM ns (rd_T38 l2 i).f0).bind fun p => if p.1 = 0 then ((net_checkTrans.f k (rd_T38 l2 i).f0 (rd_T38 l2 i).f1 (rd_T38 l2 i).f2 (rd_T38 l2 i).f3 (rd_T38 l2 i).f4 (l1.length : Int)).bind fun e => if e = 0 then net_Check.l1 k l1 l2 p.2 (wrap64 (i + 1)) else some (e, wrap64 ((l1.length : Int) + i))) else some (p.1, wrap64 ((l1.length : Int) + i))) else none) else some (0, 0)
def net_Check.l0 : Nat → List S64 → List S38 → List ByteArray → Int → Option (Int × Int)
 | 0, _, _, _, _ => none
 | k + 1, l1, l2, ns, i => if i < (l1.length : Int) then (if 0 ≤ i then ((addM ns (rd_T64 l1 i).f0).bind fun p => if p.1 = 0 then ((net_checkPlace.f (rd_T64 l1 i).f0 (rd_T64 l1 i).f1 (rd_T64 l1 i).f2).bind fun e => if e = 0 then net_Check.l0 k l1 l2 p.2 (wrap64 (i + 1)) else some (e, i)) else some (p.1, i)) else none) else net_Check.l1 k l1 l2 ns 0
def net_Check.f (k : Nat) (ac : ByteArray) (aa : List (S64)) (ab : List (S38)) : Option (Int × Int) := if nameB ac = true then (if (aa.length : Int) < 1 ∨ (24 : Int) < (aa.length : Int) ∨ (24 : Int) < (ab.length : Int) then some (2, 0) else net_Check.l0 k aa ab [] 0) else some (5, 0)
theorem net_Check.mono_l : ∀ k, (∀ y0 y1 y2 y3, LeO (net_Check.l0 k y0 y1 y2 y3) (net_Check.l0 (k + 1) y0 y1 y2 y3)) ∧ (∀ y0 y1 y2 y3, LeO (net_Check.l1 k y0 y1 y2 y3) (net_Check.l1 (k + 1) y0 y1 y2 y3))
 | 0 => ⟨fun _ _ _ _ r h => by simp [net_Check.l0] at h, fun _ _ _ _ r h => by simp [net_Check.l1] at h⟩
 | k + 1 => by
  obtain ⟨bc, a6⟩ := net_Check.mono_l k
  refine ⟨?_, ?_⟩
  ·intro y0 y1 y2 y3
   unfold net_Check.l0
   repeat' first | exact bc _ _ _ _ | exact a6 _ _ _ _ | exact LeO.refl _ | exact LeO.none _ | refine LeO.ite ?_ ?_ | refine LeO.bind (LeO.refl _) (fun _ => ?_)
  ·intro y0 y1 y2 y3
   unfold net_Check.l1
   repeat' first | exact a6 _ _ _ _ | exact net_checkTrans.mono _ _ _ _ _ _ _ | exact LeO.refl _ | exact LeO.none _ | refine LeO.ite ?_ ?_ | refine LeO.bind (LeO.refl _) (fun _ => ?_) | refine LeO.bind (net_checkTrans.mono _ _ _ _ _ _ _) (fun _ => ?_)
theorem net_Check.mono : ∀ a0 a1 a2 k, LeO (net_Check.f k a0 a1 a2) (net_Check.f (k + 1) a0 a1 a2) := by
 intro a0 a1 a2 k
 unfold net_Check.f
 exact LeO.ite (LeO.ite (LeO.refl _) ((net_Check.mono_l k).1 _ _ _ _)) (LeO.refl _)
/-- What stands while a net is checked: the net, the result, the names. -/
structure KInv (w0 w : World) (Bx Br Bn : Nat) (net : Array Value) (ns : List ByteArray) : Prop where
 nv : NInv w0 w Bn ns
 bx : w.heap[Bx]? = some (.cells net 25 (0, 0))
 br : w.heap[Br]? = some (.cells #[.int .i64 0, .int .i64 0] 48 (0, 0))
 rb : w0.heap.size ≤ Br
theorem KInv.move {w0 w w1 : World} {Bx Br Bn : Nat} {net : Array Value} {ns ns' : List ByteArray} (h : KInv w0 w Bx Br Bn net ns) (hn : NInv w0 w1 Bn ns') (o : Others w w1) : KInv w0 w1 Bx Br Bn net ns' := ⟨hn, o.2 _ _ _ h.bx (by decide) (by decide), o.2 _ _ _ h.br (by decide) (by decide), h.rb⟩
theorem KInv.below {w0 w w1 : World} {Bx Br Bn : Nat} {net : Array Value} {ns : List ByteArray} (h : KInv w0 w Bx Br Bn net ns) (hb : Below w.heap.size w w1) : KInv w0 w1 Bx Br Bn net ns := h.move (h.nv.below hb) (Others.below hb)
theorem heapArc : Kd.Heap k68 := Kd.heap_iso _ (Kd.heap_pair (Kd.heap_int _) (Kd.heap_int _))
/-- The result is written. -/
theorem res_put {W : World} {Br : Nat} {x y a b : Int} (h : W.heap[Br]? = some (.cells #[.int .i64 x, .int .i64 y] 48 (0, 0))) : ((W.setCell ⟨Br, 0, none⟩ (.int .i64 a)).setCell ⟨Br, 1, none⟩ (.int .i64 b)).heap[Br]? = some (.cells #[.int .i64 a, .int .i64 b] 48 (0, 0)) :=
 blk_put (cs := #[.int .i64 a, .int .i64 y]) (blk_put (cs := #[.int .i64 x, .int .i64 y]) h 0 _ rfl) 1 _ rfl
theorem res_facts {W : World} {Br : Nat} (h : W.heap[Br]? = some (.cells #[.int .i64 0, .int .i64 0] 48 (0, 0))) : W.cell? ⟨Br, 0, none⟩ = some (.int .i64 0) ∧ W.cell? ⟨Br, 1, none⟩ = some (.int .i64 0) ∧ W.frozen? ⟨Br, 0, none⟩ = false ∧ W.frozen? ⟨Br, 1, none⟩ = false := ⟨(blk_cell h 0).trans rfl, (blk_cell h 1).trans rfl, blk_frozen h 0, blk_frozen h 1⟩
theorem net_facts {W : World} {B : Nat} {x y z : Value} (h : W.heap[B]? = some (.cells #[x, y, z] 25 (0, 0))) : W.cell? ⟨B, 0, none⟩ = some x ∧ W.cell? ⟨B, 1, none⟩ = some y ∧ W.cell? ⟨B, 2, none⟩ = some z := ⟨(blk_cell h 0).trans rfl, (blk_cell h 1).trans rfl, (blk_cell h 2).trans rfl⟩
theorem place_facts {W : World} {B : Nat} {x y z : Value} (h : W.heap[B]? = some (.cells #[x, y, z] 64 (0, 0))) : W.cell? ⟨B, 0, none⟩ = some x ∧ W.cell? ⟨B, 1, none⟩ = some y ∧ W.cell? ⟨B, 2, none⟩ = some z := ⟨(blk_cell h 0).trans rfl, (blk_cell h 1).trans rfl, (blk_cell h 2).trans rfl⟩
theorem trans_facts {W : World} {B : Nat} {x y z u v : Value} (h : W.heap[B]? = some (.cells #[x, y, z, u, v] 38 (0, 0))) : W.cell? ⟨B, 0, none⟩ = some x ∧ W.cell? ⟨B, 1, none⟩ = some y ∧ W.cell? ⟨B, 2, none⟩ = some z ∧ W.cell? ⟨B, 3, none⟩ = some u ∧ W.cell? ⟨B, 4, none⟩ = some v := ⟨(blk_cell h 0).trans rfl, (blk_cell h 1).trans rfl, (blk_cell h 2).trans rfl, (blk_cell h 3).trans rfl, (blk_cell h 4).trans rfl⟩

set_option maxHeartbeats 4000000 in
set_option maxRecDepth 100000 in
theorem net_Check.calls (k : Nat) (ac : ByteArray) (af : Option Addr) (ah : Nat) (aa : List (S64)) (ag : Option Addr) (ai : Nat) (ab : List (S38)) (r1 : Int) (r2 : Int) (w : World) (aE : Kd.C k64 w af aa.length aa) (aC : aa.length ≤ ah) (aG : Kd.C k38 w ag ab.length ab) (aD : ab.length ≤ ai) (h : net_Check.f k ac aa ab = some (r1, r2)) :
  Calls Try.prog 62 #[.agg #[.string ac, .slice af aa.length ah, .slice ag ab.length ai]] w fun e w' => e = .returned (.agg #[.int .i64 r1, .int .i64 r2]) ∧ Below w.heap.size w w' := by
 have bl := Try.underlying25
 have hu2 := Try.underlying48
 have bm := Try.underlying64
 have bn := Try.underlying38
 have aU := Aside0.mk aE
 have bi := Aside0.mk aC
 have aV := Aside0.mk aG
 have bj := Aside0.mk aD
 clear aE aC aG aD
 have W1 : (w.alloc (.cells #[.string ac, .slice af aa.length ah, .slice ag ab.length ai] 25)).heap[w.heap.size]? = some (.cells #[.string ac, .slice af aa.length ah, .slice ag ab.length ai] 25 (0, 0)) := alloc_new _ _
 have hs1 : (w.alloc (.cells #[.string ac, .slice af aa.length ah, .slice ag ab.length ai] 25)).heap.size = w.heap.size + 1 := by simp
 obtain ⟨w2, aM⟩ : ∃ w2 : World, w2 = (w.alloc (.cells #[.string ac, .slice af aa.length ah, .slice ag ab.length ai] 25)).alloc (.cells #[.int .i64 0, .int .i64 0] 48) := ⟨_, rfl⟩
 have aI := Aside0.mk (show w2.heap[w.heap.size]? = some (.cells #[.string ac, .slice af aa.length ah, .slice ag ab.length ai] 25 (0, 0)) by rw [aM]; exact blk_below W1 (below_alloc (Below.refl _ _) _))
 have aH := Aside0.mk (show w2.heap[w.heap.size + 1]? = some (.cells #[.int .i64 0, .int .i64 0] 48 (0, 0)) by rw [aM, ← hs1]; exact alloc_new _ _)
 have ay := Aside0.mk (show Below w.heap.size w w2 by rw [aM]; exact below_alloc (below_alloc (Below.refl _ _) _) _)
 obtain ⟨aY, aZ, a3⟩ := net_facts aI.out
 obtain ⟨aW, aX, a4, a5⟩ := res_facts aH.out
 rw [aM] at aY aZ a3 aW aX a4 a5
 have aK := Aside0.mk aM
 clear W1 hs1 aM
 unfold net_Check.f at h
 by_cases n1 : nameB ac = true
 case neg =>
  rw [if_neg n1] at h
  simp only [Option.some.injEq, Prod.mk.injEq] at h
  obtain ⟨rfl, rfl⟩ := h
  have HN := Aside0.mk (show net_Name.f ac = some false by unfold net_Name.f; rw [Bool.not_eq_true] at n1; rw [n1])
  clear n1
  go_enter Try.func62, Try.ntmps62
  go_wp2_with (first | (go_at_call 92; refine (net_Name.calls _ _ _ HN.out).mono ?_; rintro e w3 ⟨rfl, hb⟩; rw [← aK.out] at hb; have au := Aside0.mk (blk_below aI.out hb); have ap := Aside0.mk (blk_below aH.out hb); have az := Aside0.mk (ay.out.trans (hb.mono ay.out.size)); obtain ⟨av, aw, ax⟩ := net_facts au.out; obtain ⟨aj, ak, al, ao⟩ := res_facts ap.out; clear hb))
  refine bodyPost_ret (results_cell_row rfl _ _ (w.heap.size + 1) 48 #[.int .i64 5, .int .i64 0] (0, 0) _ rfl (res_put ap.out) Try.underlying48 rfl (by kernel_rfl)) rfl ?_
  exact ⟨rfl, below_set (below_set az.out (Nat.le_succ _)) (Nat.le_succ _)⟩
 rw [if_pos n1] at h
 have HN := Aside0.mk (show net_Name.f ac = some true by unfold net_Name.f; rw [n1])
 clear n1
 by_cases z : (aa.length : Int) < 1 ∨ (24 : Int) < (aa.length : Int) ∨ (24 : Int) < (ab.length : Int)
 case pos =>
  rw [if_pos z] at h
  simp only [Option.some.injEq, Prod.mk.injEq] at h
  obtain ⟨rfl, rfl⟩ := h
  by_cases z1 : (aa.length : Int) < 1
  case pos =>
   have z1b : decide ((aa.length : Int) < 1) = true := decide_eq_true (by omega)
   have z1c : decide (aa.length < 1) = true := decide_eq_true (by omega)
   clear z
   go_enter Try.func62, Try.ntmps62
   go_wp2_with (first | (go_at_call 92; refine (net_Name.calls _ _ _ HN.out).mono ?_; rintro e w3 ⟨rfl, hb⟩; rw [← aK.out] at hb; have au := Aside0.mk (blk_below aI.out hb); have ap := Aside0.mk (blk_below aH.out hb); have az := Aside0.mk (ay.out.trans (hb.mono ay.out.size)); obtain ⟨av, aw, ax⟩ := net_facts au.out; obtain ⟨aj, ak, al, ao⟩ := res_facts ap.out; clear hb))
   refine bodyPost_ret (results_cell_row rfl _ _ (w.heap.size + 1) 48 #[.int .i64 2, .int .i64 0] (0, 0) _ rfl (res_put ap.out) Try.underlying48 rfl (by kernel_rfl)) rfl ?_
   exact ⟨rfl, below_set (below_set az.out (Nat.le_succ _)) (Nat.le_succ _)⟩
  have z1b : decide ((aa.length : Int) < 1) = false := decide_eq_false (by omega)
  have z1c : decide (aa.length < 1) = false := decide_eq_false (by omega)
  by_cases z2 : 24 < (aa.length : Int)
  case pos =>
   have z2b : decide (24 < (aa.length : Int)) = true := decide_eq_true (by omega)
   have z2c : decide (24 < aa.length) = true := decide_eq_true (by omega)
   clear z
   go_enter Try.func62, Try.ntmps62
   go_wp2_with (first | (go_at_call 92; refine (net_Name.calls _ _ _ HN.out).mono ?_; rintro e w3 ⟨rfl, hb⟩; rw [← aK.out] at hb; have au := Aside0.mk (blk_below aI.out hb); have ap := Aside0.mk (blk_below aH.out hb); have az := Aside0.mk (ay.out.trans (hb.mono ay.out.size)); obtain ⟨av, aw, ax⟩ := net_facts au.out; obtain ⟨aj, ak, al, ao⟩ := res_facts ap.out; clear hb))
   refine bodyPost_ret (results_cell_row rfl _ _ (w.heap.size + 1) 48 #[.int .i64 2, .int .i64 0] (0, 0) _ rfl (res_put ap.out) Try.underlying48 rfl (by kernel_rfl)) rfl ?_
   exact ⟨rfl, below_set (below_set az.out (Nat.le_succ _)) (Nat.le_succ _)⟩
  have z2b : decide (24 < (aa.length : Int)) = false := decide_eq_false (by omega)
  have z2c : decide (24 < aa.length) = false := decide_eq_false (by omega)
  have z3 : 24 < (ab.length : Int) := (z.resolve_left z1).resolve_left z2
  have z3b : decide (24 < (ab.length : Int)) = true := decide_eq_true (by omega)
  have z3c : decide (24 < ab.length) = true := decide_eq_true (by omega)
  clear z
  go_enter Try.func62, Try.ntmps62
  go_wp2_with (first | (go_at_call 92; refine (net_Name.calls _ _ _ HN.out).mono ?_; rintro e w3 ⟨rfl, hb⟩; rw [← aK.out] at hb; have au := Aside0.mk (blk_below aI.out hb); have ap := Aside0.mk (blk_below aH.out hb); have az := Aside0.mk (ay.out.trans (hb.mono ay.out.size)); obtain ⟨av, aw, ax⟩ := net_facts au.out; obtain ⟨aj, ak, al, ao⟩ := res_facts ap.out; clear hb))
  refine bodyPost_ret (results_cell_row rfl _ _ (w.heap.size + 1) 48 #[.int .i64 2, .int .i64 0] (0, 0) _ rfl (res_put ap.out) Try.underlying48 rfl (by kernel_rfl)) rfl ?_
  exact ⟨rfl, below_set (below_set az.out (Nat.le_succ _)) (Nat.le_succ _)⟩
 rw [if_neg z] at h
 have z1b : decide ((aa.length : Int) < 1) = false := decide_eq_false (by omega)
 have z1c : decide (aa.length < 1) = false := decide_eq_false (by omega)
 have z2b : decide (24 < (aa.length : Int)) = false := decide_eq_false (by omega)
 have z2c : decide (24 < aa.length) = false := decide_eq_false (by omega)
 have z3b : decide (24 < (ab.length : Int)) = false := decide_eq_false (by omega)
 have z3c : decide (24 < ab.length) = false := decide_eq_false (by omega)
 have hmf : ∀ (fn : Fn) (first cap : Array Value) (w : World), (Instr.makeFunc fn first cap).run Try.prog w = .ok (.func fn first cap) w := fun _ _ _ _ => rfl
 have H := Aside0.mk h
 clear h
 go_enter Try.func62, Try.ntmps62
 go_wp2_with (first | (go_at_call 92; refine (net_Name.calls _ _ _ HN.out).mono ?_; rintro e w3 ⟨rfl, hb⟩; rw [← aK.out] at hb; have au := Aside0.mk (blk_below aI.out hb); have ap := Aside0.mk (blk_below aH.out hb); have az := Aside0.mk (ay.out.trans (hb.mono ay.out.size)); obtain ⟨av, aw, ax⟩ := net_facts au.out; obtain ⟨aj, ak, al, ao⟩ := res_facts ap.out; clear hb; obtain ⟨a9, ba, bb⟩ := net_facts (blk_below au.out (below_alloc (Below.refl _ _) (.cells #[.slice none 0 0] 109)))))
 have HK := Aside0.mk (show KInv w (w3.alloc (.cells #[.slice none 0 0] 109)) w.heap.size (w.heap.size + 1) w3.heap.size #[.string ac, .slice af aa.length ah, .slice ag ab.length ai] [] from ⟨⟨⟨.slice none 0 0, alloc_new _ _, Kd.R_nil _ _ _ _ _⟩, below_alloc az.out _, az.out.size⟩, blk_below au.out (below_alloc (Below.refl _ _) _), blk_below ap.out (below_alloc (Below.refl _ _) _), Nat.le_succ _⟩)
 obtain ⟨Bn, hBn⟩ : ∃ Bn, Bn = w3.heap.size := ⟨_, rfl⟩
 rw [← hBn] at HK ⊢
 clear a9 ba bb av aw ax aj ak al ao au ap az hBn aY aZ a3 aW aX a4 a5 aI aH ay aK z1b z1c z2b z2c z3b z3c z HN
 go_loopg [37] k (fun kq bg w' => ∃ (i : Int) (ns : List ByteArray), bg = .int .i64 i ∧ Aside0 (net_Check.l0 kq aa ab ns i = some (r1, r2)) ∧ Aside0 (kq ≤ k) ∧ Aside0 (KInv w w' w.heap.size (w.heap.size + 1) Bn #[.string ac, .slice af aa.length ah, .slice ag ab.length ai] ns))
 case atStart => exact ⟨0, [], rfl, H, ⟨Nat.le_refl _⟩, HK⟩
 case round =>
  clear H HK
  obtain ⟨i, ns, rfl, HA, HJ, HK⟩ := hrel
  cases gk with
  | zero => exact absurd HA.out (by simp [net_Check.l0])
  | succ k1 =>
  have H := HA.out
  clear HA
  simp only [net_Check.l0] at H
  by_cases d1 : i < (aa.length : Int)
  case neg =>
   rw [if_neg d1] at H
   have d1b : decide (i < (aa.length : Int)) = false := decide_eq_false d1
   have H' := Aside0.mk H
   clear H d1
   obtain ⟨av, aw, ax⟩ := net_facts HK.out.bx
   go_wp2
   clear av aw ax d1b
   go_loopg [59] k1 (fun kq bh w' => ∃ (i : Int) (ns : List ByteArray), bh = .int .i64 i ∧ Aside0 (net_Check.l1 kq aa ab ns i = some (r1, r2)) ∧ Aside0 (kq ≤ k1) ∧ Aside0 (KInv w w' w.heap.size (w.heap.size + 1) Bn #[.string ac, .slice af aa.length ah, .slice ag ab.length ai] ns))
   case atStart => exact ⟨0, ns, rfl, H', ⟨Nat.le_refl _⟩, HK⟩
   case round =>
    clear H' HK
    obtain ⟨i, ns, rfl, HA, aT, HK⟩ := hrel
    cases gk with
    | zero => exact absurd HA.out (by simp [net_Check.l1])
    | succ k3 =>
    have H := HA.out
    clear HA
    simp only [net_Check.l1] at H
    by_cases d1 : i < (ab.length : Int)
    case neg =>
     rw [if_neg d1] at H
     have d1b : decide (i < (ab.length : Int)) = false := decide_eq_false d1
     simp only [Option.some.injEq, Prod.mk.injEq] at H
     obtain ⟨rfl, rfl⟩ := H
     obtain ⟨aj, ak, al, ao⟩ := res_facts HK.out.br
     clear d1
     go_wp2
     refine bodyPost_ret (results_cell_row rfl _ _ (w.heap.size + 1) 48 #[.int .i64 0, .int .i64 0] (0, 0) _ rfl (res_put HK.out.br) Try.underlying48 rfl (by kernel_rfl)) rfl ?_
     exact ⟨rfl, below_set (below_set HK.out.nv.B (Nat.le_succ _)) (Nat.le_succ _)⟩
    rw [if_pos d1] at H
    have d1b : decide (i < (ab.length : Int)) = true := decide_eq_true d1
    by_cases d2 : 0 ≤ i
    case neg => rw [if_neg d2] at H; cases H
    rw [if_pos d2] at H
    obtain ⟨⟨p1, bd⟩, hp, H⟩ := Option.bind_eq_some_iff.mp H
    have HP := Aside0.mk hp
    clear hp
    obtain ⟨ad, A1, c1, A2, c2, A3, c3, eA, y0, y1, y2, y3, y4, m1, g1, m2, g2, m3, g3⟩ := at_T38 aV.out i d2 d1
    subst eA
    have u0 := pw_cell_below HK.out.nv.B y0
    have u1 := pw_cell_below HK.out.nv.B y1
    have u2 := pw_cell_below HK.out.nv.B y2
    have u3 := pw_cell_below HK.out.nv.B y3
    have u4 := pw_cell_below HK.out.nv.B y4
    clear y0 y1 y2 y3 y4
    have M1 := Aside0.mk m1
    have M2 := Aside0.mk m2
    have M3 := Aside0.mk m3
    have G1 := Aside0.mk g1
    have G2 := Aside0.mk g2
    have G3 := Aside0.mk g3
    clear m1 m2 m3 g1 g2 g3
    have q1 : (0 ≤ i) = True := eq_true d2
    have q2 : (i < (ab.length : Int)) = True := eq_true d1
    have ar := Aside0.mk (HK.out.below (below_alloc (Below.refl _ _) (.cells #[.string (rd_T38 ab i).f0, .slice A1 (rd_T38 ab i).f1.length c1, .slice A2 (rd_T38 ab i).f2.length c2, .slice A3 (rd_T38 ab i).f3.length c3, .int .i64 (rd_T38 ab i).f4] 38)))
    have HPl := Aside0.mk (alloc_new wr (.cells #[.string (rd_T38 ab i).f0, .slice A1 (rd_T38 ab i).f1.length c1, .slice A2 (rd_T38 ab i).f2.length c2, .slice A3 (rd_T38 ab i).f3.length c3, .int .i64 (rd_T38 ab i).f4] 38))
    obtain ⟨v0, v1, v2, v3, v4⟩ := trans_facts HPl.out
    by_cases d3 : p1 = 0
    case neg =>
     have d3b : (p1 == 0) = false := beq_eq_false_iff_ne.mpr d3
     have d3c : (p1 != 0) = true := bne_iff_ne.mpr d3
     rw [if_neg d3] at H
     simp only [Option.some.injEq, Prod.mk.injEq] at H
     obtain ⟨rfl, rfl⟩ := H
     clear d3
     go_wp2_with (first | (go_at_call 93; refine (add_calls w _ Bn ns _ _ ar.out.nv HP.out).mono ?_; rintro e w4 ⟨rfl, hn, ho⟩; have ae := Aside0.mk (ar.out.move hn ho); have HPm := Aside0.mk (ho.2 _ _ _ HPl.out (by decide) (by decide)); obtain ⟨t0, t1, t2, t3, t4⟩ := trans_facts HPm.out; obtain ⟨aj, ak, al, ao⟩ := res_facts ae.out.br; obtain ⟨av, aw, ax⟩ := net_facts ae.out.bx; clear hn ho))
     refine bodyPost_ret (results_cell_row rfl _ _ (w.heap.size + 1) 48 #[.int .i64 p1, .int .i64 (wrap64 ((aa.length : Int) + i))] (0, 0) _ rfl (res_put ae.out.br) Try.underlying48 rfl (by kernel_rfl)) rfl ?_
     exact ⟨rfl, below_set (below_set ae.out.nv.B (Nat.le_succ _)) (Nat.le_succ _)⟩
    have d3b : (p1 == 0) = true := beq_iff_eq.mpr d3
    rw [if_pos d3] at H
    obtain ⟨e1, he, H⟩ := Option.bind_eq_some_iff.mp H
    have HE := Aside0.mk he
    clear he
    by_cases d4 : e1 = 0
    case neg =>
     have d4b : (e1 == 0) = false := beq_eq_false_iff_ne.mpr d4
     have d4c : (e1 != 0) = true := bne_iff_ne.mpr d4
     rw [if_neg d4] at H
     simp only [Option.some.injEq, Prod.mk.injEq] at H
     obtain ⟨rfl, rfl⟩ := H
     clear d4 d3
     go_wp2_with (first | (go_at_call 93; refine (add_calls w _ Bn ns _ _ ar.out.nv HP.out).mono ?_; rintro e w4 ⟨rfl, hn, ho⟩; have ae := Aside0.mk (ar.out.move hn ho); have HPm := Aside0.mk (ho.2 _ _ _ HPl.out (by decide) (by decide)); obtain ⟨t0, t1, t2, t3, t4⟩ := trans_facts HPm.out; obtain ⟨aj, ak, al, ao⟩ := res_facts ae.out.br; obtain ⟨av, aw, ax⟩ := net_facts ae.out.bx; clear hn ho) | (go_at_call 95; refine (net_checkTrans.calls k3 _ (fun k_ => k_ < w4.heap.size) A1 c1 _ (fun k_ => k_ < w4.heap.size) A2 c2 _ (fun k_ => k_ < w4.heap.size) A3 c3 _ _ _ _ _ (Kd.V_mk M1.out (Kd.C_F heapArc (Kd.C_below G1.out ae.out.nv.B))) (Kd.V_mk M2.out (Kd.C_F heapArc (Kd.C_below G2.out ae.out.nv.B))) (Kd.V_mk M3.out (Kd.C_F heapArc (Kd.C_below G3.out ae.out.nv.B))) HE.out).mono ?_; rintro e w5 ⟨rfl, hb⟩; have aq := Aside0.mk (ae.out.below hb); obtain ⟨aj, ak, al, ao⟩ := res_facts aq.out.br; obtain ⟨av, aw, ax⟩ := net_facts aq.out.bx; clear hb))
     refine bodyPost_ret (results_cell_row rfl _ _ (w.heap.size + 1) 48 #[.int .i64 e1, .int .i64 (wrap64 ((aa.length : Int) + i))] (0, 0) _ rfl (res_put aq.out.br) Try.underlying48 rfl (by kernel_rfl)) rfl ?_
     exact ⟨rfl, below_set (below_set aq.out.nv.B (Nat.le_succ _)) (Nat.le_succ _)⟩
    have d4b : (e1 == 0) = true := beq_iff_eq.mpr d4
    have d4c : (e1 != 0) = false := by rw [bne, d4b]; rfl
    rw [if_pos d4] at H
    have HM := Aside0.mk (show (ab.length : Int) ≤ 9223372036854775807 by have := aV.out.2.1; omega)
    rw [show wrap64 (i + 1) = i + 1 by have := HM.out; unfold wrap64; omega] at H
    have H' := Aside0.mk H
    clear H d4 d3
    go_wp2_with (first | (go_at_call 93; refine (add_calls w _ Bn ns _ _ ar.out.nv HP.out).mono ?_; rintro e w4 ⟨rfl, hn, ho⟩; have ae := Aside0.mk (ar.out.move hn ho); have HPm := Aside0.mk (ho.2 _ _ _ HPl.out (by decide) (by decide)); obtain ⟨t0, t1, t2, t3, t4⟩ := trans_facts HPm.out; obtain ⟨aj, ak, al, ao⟩ := res_facts ae.out.br; obtain ⟨av, aw, ax⟩ := net_facts ae.out.bx; clear hn ho) | (go_at_call 95; refine (net_checkTrans.calls k3 _ (fun k_ => k_ < w4.heap.size) A1 c1 _ (fun k_ => k_ < w4.heap.size) A2 c2 _ (fun k_ => k_ < w4.heap.size) A3 c3 _ _ _ _ _ (Kd.V_mk M1.out (Kd.C_F heapArc (Kd.C_below G1.out ae.out.nv.B))) (Kd.V_mk M2.out (Kd.C_F heapArc (Kd.C_below G2.out ae.out.nv.B))) (Kd.V_mk M3.out (Kd.C_F heapArc (Kd.C_below G3.out ae.out.nv.B))) HE.out).mono ?_; rintro e w5 ⟨rfl, hb⟩; have aq := Aside0.mk (ae.out.below hb); obtain ⟨aj, ak, al, ao⟩ := res_facts aq.out.br; obtain ⟨av, aw, ax⟩ := net_facts aq.out.bx; clear hb))
    go_roundg k3
    case measure => have := aT.out; omega
    case rel => exact ⟨_, _, (by congr 1; have := HM.out; (first | omega | (unfold wrap64; omega) | (show wrap64 _ = _; unfold wrap64; omega))), H', ⟨by have := aT.out; omega⟩, aq⟩
  rw [if_pos d1] at H
  have d1b : decide (i < (aa.length : Int)) = true := decide_eq_true d1
  by_cases d2 : 0 ≤ i
  case neg => rw [if_neg d2] at H; cases H
  rw [if_pos d2] at H
  obtain ⟨⟨p1, bd⟩, hp, H⟩ := Option.bind_eq_some_iff.mp H
  have HP := Aside0.mk hp
  clear hp
  obtain ⟨ad, eA, y0, y1, y2⟩ := at_T64 aU.out i d2 d1
  subst eA
  have u0 := pw_cell_below HK.out.nv.B y0
  have u1 := pw_cell_below HK.out.nv.B y1
  have u2 := pw_cell_below HK.out.nv.B y2
  clear y0 y1 y2
  have q1 : (0 ≤ i) = True := eq_true d2
  have q2 : (i < (aa.length : Int)) = True := eq_true d1
  have ar := Aside0.mk (HK.out.below (below_alloc (Below.refl _ _) (.cells #[.string (rd_T64 aa i).f0, .int .i64 (rd_T64 aa i).f1, .int .i64 (rd_T64 aa i).f2] 64)))
  have HPl := Aside0.mk (alloc_new wr (.cells #[.string (rd_T64 aa i).f0, .int .i64 (rd_T64 aa i).f1, .int .i64 (rd_T64 aa i).f2] 64))
  obtain ⟨v0, v1, v2⟩ := place_facts HPl.out
  by_cases d3 : p1 = 0
  case neg =>
   have d3b : (p1 == 0) = false := beq_eq_false_iff_ne.mpr d3
   have d3c : (p1 != 0) = true := bne_iff_ne.mpr d3
   rw [if_neg d3] at H
   simp only [Option.some.injEq, Prod.mk.injEq] at H
   obtain ⟨rfl, rfl⟩ := H
   clear d3
   go_wp2_with (first | (go_at_call 93; refine (add_calls w _ Bn ns _ _ ar.out.nv HP.out).mono ?_; rintro e w4 ⟨rfl, hn, ho⟩; have ae := Aside0.mk (ar.out.move hn ho); have HPm := Aside0.mk (ho.2 _ _ _ HPl.out (by decide) (by decide)); obtain ⟨t0, t1, t2⟩ := place_facts HPm.out; obtain ⟨aj, ak, al, ao⟩ := res_facts ae.out.br; clear hn ho))
   refine bodyPost_ret (results_cell_row rfl _ _ (w.heap.size + 1) 48 #[.int .i64 p1, .int .i64 i] (0, 0) _ rfl (res_put ae.out.br) Try.underlying48 rfl (by kernel_rfl)) rfl ?_
   exact ⟨rfl, below_set (below_set ae.out.nv.B (Nat.le_succ _)) (Nat.le_succ _)⟩
  have d3b : (p1 == 0) = true := beq_iff_eq.mpr d3
  rw [if_pos d3] at H
  obtain ⟨e1, he, H⟩ := Option.bind_eq_some_iff.mp H
  have HE := Aside0.mk he
  clear he
  by_cases d4 : e1 = 0
  case neg =>
   have d4b : (e1 == 0) = false := beq_eq_false_iff_ne.mpr d4
   have d4c : (e1 != 0) = true := bne_iff_ne.mpr d4
   rw [if_neg d4] at H
   simp only [Option.some.injEq, Prod.mk.injEq] at H
   obtain ⟨rfl, rfl⟩ := H
   clear d4 d3
   go_wp2_with (first | (go_at_call 93; refine (add_calls w _ Bn ns _ _ ar.out.nv HP.out).mono ?_; rintro e w4 ⟨rfl, hn, ho⟩; have ae := Aside0.mk (ar.out.move hn ho); have HPm := Aside0.mk (ho.2 _ _ _ HPl.out (by decide) (by decide)); obtain ⟨t0, t1, t2⟩ := place_facts HPm.out; obtain ⟨aj, ak, al, ao⟩ := res_facts ae.out.br; clear hn ho) | (go_at_call 94; refine (net_checkPlace.calls _ _ _ _ _ HE.out).mono ?_; rintro e w5 ⟨rfl, hb⟩; have aq := Aside0.mk (ae.out.below hb); obtain ⟨aj, ak, al, ao⟩ := res_facts aq.out.br; clear hb))
   refine bodyPost_ret (results_cell_row rfl _ _ (w.heap.size + 1) 48 #[.int .i64 e1, .int .i64 i] (0, 0) _ rfl (res_put aq.out.br) Try.underlying48 rfl (by kernel_rfl)) rfl ?_
   exact ⟨rfl, below_set (below_set aq.out.nv.B (Nat.le_succ _)) (Nat.le_succ _)⟩
  have d4b : (e1 == 0) = true := beq_iff_eq.mpr d4
  have d4c : (e1 != 0) = false := by rw [bne, d4b]; rfl
  rw [if_pos d4] at H
  have HM := Aside0.mk (show (aa.length : Int) ≤ 9223372036854775807 by have := aU.out.2.1; omega)
  rw [show wrap64 (i + 1) = i + 1 by have := HM.out; unfold wrap64; omega] at H
  have H' := Aside0.mk H
  clear H d4 d3
  go_wp2_with (first | (go_at_call 93; refine (add_calls w _ Bn ns _ _ ar.out.nv HP.out).mono ?_; rintro e w4 ⟨rfl, hn, ho⟩; have ae := Aside0.mk (ar.out.move hn ho); have HPm := Aside0.mk (ho.2 _ _ _ HPl.out (by decide) (by decide)); obtain ⟨t0, t1, t2⟩ := place_facts HPm.out; obtain ⟨aj, ak, al, ao⟩ := res_facts ae.out.br; clear hn ho) | (go_at_call 94; refine (net_checkPlace.calls _ _ _ _ _ HE.out).mono ?_; rintro e w5 ⟨rfl, hb⟩; have aq := Aside0.mk (ae.out.below hb); obtain ⟨aj, ak, al, ao⟩ := res_facts aq.out.br; clear hb))
  go_roundg k1
  case measure => have := HJ.out; omega
  case rel => exact ⟨_, _, (by congr 1; have := HM.out; (first | omega | (unfold wrap64; omega) | (show wrap64 _ = _; unfold wrap64; omega))), H', ⟨by have := HJ.out; omega⟩, aq⟩

/-! ### net_valid: function 96 -/
def net_valid.f (k : Nat) (ae : ByteArray) (aa : List (S64)) (ab : List (S38)) : Option (Bool) := (net_Check.f k ae aa ab).bind fun au => (some (au.1 == 0))
theorem net_valid.mono : ∀ a0 a1 a2 k, LeO (net_valid.f k a0 a1 a2) (net_valid.f (k + 1) a0 a1 a2) := by
 intro a0 a1 a2 k
 unfold net_valid.f
 repeat' first | (with_reducible first | apply net_Check.mono | apply lr | apply ln | apply li | refine lb ?_ fun _ => ?_)
set_option maxHeartbeats 8000000 in
set_option maxRecDepth 100000 in
theorem net_valid.calls (k : Nat) (ae : ByteArray) (aj : Option Addr) (av : Nat) (aa : List (S64)) (ak : Option Addr) (aw : Nat) (ab : List (S38)) (r : Bool) (w : World) (ah : Kd.C k64 w aj aa.length aa) (af : aa.length ≤ av) (ai : Kd.C k38 w ak ab.length ab) (ag : ab.length ≤ aw) (h : net_valid.f k ae aa ab = some r) :
  Calls Try.prog 96 #[.agg #[.string ae, .slice aj aa.length av, .slice ak ab.length aw]] w fun e w' => e = .returned (.bool r) ∧ Below w.heap.size w w' := by
 have ax : ∀ (x0 x1 : Value) (W : World), (Instr.field 48 (.agg #[x0, x1]) 0).run Try.prog W = .ok x0 W := fun x0 x1 W => by kernel_rfl
 have aC := Try.underlying25
 have aq := am ah
 have ao := am af
 clear ah af
 have ar := am ai
 have ap := am ag
 clear ai ag
 have HB := am (Below.refl w.heap.size w)
 have H := h
 unfold net_valid.f at H
 clear h
 replace H := bnd H
 obtain ⟨⟨ay, az⟩, A2, H⟩ := H
 (try dsimp only at H)
 obtain rfl := Option.some.inj H
 go_enter Try.func96, Try.ntmps96
 go_wp2_with (first | ((with_reducible refine gate_dst (N := 1) rfl ?_); refine box_ev ?_; intro aB hg w3 hbox hb; have ac := am hbox; have al := gwl hg; have aA := al; replace HB := bsl hb; clear hb hbox hg; have aD := cf3 ac.1) | ((with_reducible refine gate_callee (f := 62) rfl ?_); refine gC 4 Try.func62 _ (net_Check.calls k ae _ _ aa _ _ ab ay az _ (csb aq HB) ao.1 (csb ar HB) ap.1 A2.1) ?_; rintro e w5 ⟨rfl, hb⟩; refine ⟨_, rfl, ?_⟩; replace ac := bbh ac hb; replace HB := bst hb; (try clear hb)))
 go_ret
 exact ⟨per, pbg⟩

/-! ### net_Plain: function 63 -/
mutual
def net_Plain.l0 : Nat → List (S38) → Int → Int → ByteArray → List (S64) → List (S38) → Option (Bool)
 | 0, _, _, _, _, _, _ => none
 | k + 1, x8, x9, x10, aj, af, ak => if x10 < x9 then (if 0 ≤ x10 then (if x10 < (x8.length : Int) then (if (((rd_T38 x8 x10).f3).length : Int) > 0 then (some false) else (if ((rd_T38 x8 x10).f4) = 0 then (net_Plain.l0 k x8 x9 (wrap64 (x10 + 1)) aj af ak) else (some false))) else (none)) else (none)) else (net_Plain.l1 k af (af.length : Int) 0 aj af ak)
def net_Plain.l1 : Nat → List (S64) → Int → Int → ByteArray → List (S64) → List (S38) → Option (Bool)
 | 0, _, _, _, _, _, _ => none
 | k + 1, bB, bU, br, aj, af, ak => if br < bU then (if 0 ≤ br then (if br < (bB.length : Int) then (if ((rd_T64 bB br).f2) = 0 then (net_Plain.l1 k bB bU (wrap64 (br + 1)) aj af ak) else (some false)) else (none)) else (none)) else ((net_valid.f k aj af ak).bind fun bd => (some bd))
end
def net_Plain.f (k : Nat) (ap : ByteArray) (ai : List (S64)) (ac : List (S38)) : Option (Bool) := net_Plain.l0 k ac (ac.length : Int) 0 ap ai ac
theorem net_Plain.mono_l : ∀ k, M6 net_Plain.l0 k ∧ M6 net_Plain.l1 k
 | 0 => ⟨fun _ _ _ _ _ _ r h => by simp [net_Plain.l0] at h, fun _ _ _ _ _ _ r h => by simp [net_Plain.l1] at h⟩
 | k + 1 => by
  obtain ⟨bw, bx⟩ := net_Plain.mono_l k
  refine ⟨?_, ?_⟩ <;> dsimp only [M6] <;> intros <;> (first | unfold net_Plain.l0 | unfold net_Plain.l1) <;> repeat' first | (with_reducible first | apply bw | apply bx | apply net_valid.mono | apply lr | apply ln | apply li | refine lb ?_ fun _ => ?_)
theorem net_Plain.mono : ∀ a0 a1 a2 k, LeO (net_Plain.f k a0 a1 a2) (net_Plain.f (k + 1) a0 a1 a2) := by
 intro a0 a1 a2 k
 obtain ⟨bw, bx⟩ := net_Plain.mono_l k
 unfold net_Plain.f
 repeat' first | (with_reducible first | apply bw | apply bx | apply net_valid.mono | apply lr | apply ln | apply li | refine lb ?_ fun _ => ?_)
set_option maxHeartbeats 8000000 in
set_option maxRecDepth 100000 in
theorem net_Plain.calls (k : Nat) (ap : ByteArray) (aQ : Option Addr) (aS : Nat) (ai : List (S64)) (aR : Option Addr) (aT : Nat) (ac : List (S38)) (r : Bool) (w : World) (a8 : Kd.C k64 w aQ ai.length ai) (a6 : ai.length ≤ aS) (a9 : Kd.C k38 w aR ac.length ac) (a7 : ac.length ≤ aT) (h : net_Plain.f k ap ai ac = some r) :
  Calls Try.prog 63 #[.agg #[.string ap, .slice aQ ai.length aS, .slice aR ac.length aT]] w fun e w' => e = .returned (.bool r) ∧ Below w.heap.size w w' := by
 have bZ := Try.underlying25
 have b0 := Try.underlying38
 have b1 := Try.underlying64
 have aL := am a8
 have bh := am a6
 clear a8 a6
 have aC := am a9
 have bi := am a7
 clear a9 a7
 have HB := am (Below.refl w.heap.size w)
 have H := h
 unfold net_Plain.f at H
 clear h
 have H' := am H
 clear H
 go_enter Try.func63, Try.ntmps63
 go_wp2_with (first | ((with_reducible refine gate_dst (N := 1) rfl ?_); refine box_ev ?_; intro a4 hg w2 hbox hb; have aa := am hbox; have bg := gwl hg; have bG := bg; replace HB := bsl hb; clear hb hbox hg; have bV := cf3 aa.1))
 go_loopg [10] k (fun kq b2 w' => ∃ (ag : Int), b2 = .int .i64 ag ∧ Aside0 (net_Plain.l0 kq ac (ac.length : Int) ag ap ai ac = some r) ∧ Aside0 (kq ≤ k) ∧ Aside0 (w'.heap[a4]? = some (.cells #[.string ap, (.slice aQ ai.length aS), (.slice aR ac.length aT)] 25 (0, 0))) ∧ Aside0 (Below w.heap.size w w'))
 case atStart => exact ⟨(0), prs, H', ⟨Nat.le_refl _⟩, ⟨pbk aa.1⟩, ⟨pbg⟩⟩
 clear H'
 try clear bV
 obtain ⟨ag, rfl, HA, bs, aa, HB⟩ := hrel
 obtain _ | k1 := gk
 ·exact absurd HA.1 (by simp [net_Plain.l0])
 have H := HA.1
 clear HA
 simp only [net_Plain.l0] at H
 replace H := ifl H
 rcases H with ⟨bn, H⟩ | ⟨bn, H⟩
 rotate_left
 ·have H' := am H
  clear H
  have bF := cf3 aa.1
  go_wp2
  go_loopg [27] k1 (fun kq b3 w' => ∃ (ao : Int), b3 = .int .i64 ao ∧ Aside0 (net_Plain.l1 kq ai (ai.length : Int) ao ap ai ac = some r) ∧ Aside0 (kq ≤ k1) ∧ Aside0 (w'.heap[a4]? = some (.cells #[.string ap, (.slice aQ ai.length aS), (.slice aR ac.length aT)] 25 (0, 0))) ∧ Aside0 (Below w.heap.size w w'))
  case atStart => exact ⟨(0), prs, H', ⟨Nat.le_refl _⟩, ⟨pbk aa.1⟩, ⟨pbg⟩⟩
  clear H'
  try clear bn c5 bu c6 bv c7 bo bp b7 aZ a3 bC bD bE bF bV aq ar au av aw bb bc
  obtain ⟨ao, rfl, HA, bH, aa, HB⟩ := hrel
  obtain _ | k2 := gk
  ·exact absurd HA.1 (by simp [net_Plain.l1])
  have H := HA.1
  clear HA
  simp only [net_Plain.l1] at H
  replace H := ifl H
  rcases H with ⟨bk, H⟩ | ⟨bk, H⟩
  rotate_left
  ·replace H := bnd H
   obtain ⟨bd, bW, H⟩ := H
   (try dsimp only at H)
   obtain rfl := Option.some.inj H
   have b6 := cf3 aa.1
   go_wp2_with (first | ((with_reducible refine gate_callee (f := 96) rfl ?_); refine gC 36 Try.func96 _ (net_valid.calls k2 ap _ _ ai _ _ ac bd _ (csb aL HB) bh.1 (csb aC HB) bi.1 bW.1) ?_; rintro e cd ⟨rfl, hb⟩; refine ⟨_, rfl, ?_⟩; replace aa := bbh aa hb; replace HB := bst hb; (try clear hb)))
   go_ret
   exact ⟨per, pbg⟩
  replace H := ifp H
  obtain ⟨bI, H⟩ := H
  have bJ := decide_eq_true bI
  clear bI
  replace H := ifp H
  obtain ⟨bK, H⟩ := H
  have bL := decide_eq_true bK
  clear bK
  replace H := ife H
  rcases H with ⟨bl, bm, H⟩ | ⟨bl, bm, H⟩
  rotate_left
  ·obtain rfl := Option.some.inj H
   obtain ⟨bz, bA, bj, ba, aU, aV, aW⟩ := bT64 aL.1 HB.1 ao
   cases ba
   go_wp2_with (first | ((with_reducible refine gate_dst (N := 6) rfl ?_); refine box_ev (N := 6) (cs := #[.string (⟨#[]⟩ : ByteArray), .int .i64 0, .int .i64 0]) (t := 64) ?_; intro bq hg cb hbox hb; have aJ := am hbox; have aK := gwb hg; have bf := aK; have ah := nlt hg aa; have al := ngt hg aa; replace aa := bbh aa hb; replace HB := bst hb; clear hb hbox hg; have bP := al.1; have bT := ah.1; have b5 := cf3 aJ.1))
   go_ret
   exact ⟨per, pbg⟩
  have H' := am H
  clear H
  obtain ⟨bz, bA, bj, ba, aU, aV, aW⟩ := bT64 aL.1 HB.1 ao
  cases ba
  go_wp2_with (first | ((with_reducible refine gate_dst (N := 6) rfl ?_); refine box_ev (N := 6) (cs := #[.string (⟨#[]⟩ : ByteArray), .int .i64 0, .int .i64 0]) (t := 64) ?_; intro bq hg ca hbox hb; have aJ := am hbox; have aK := gwb hg; have bf := aK; have ah := nlt hg aa; have al := ngt hg aa; replace aa := bbh aa hb; replace HB := bst hb; clear hb hbox hg; have bO := al.1; have bS := ah.1; have b4 := cf3 aJ.1))
  go_roundg k2
  case measure => have := bs.1; have := bH.1; omega
  case rel => exact ⟨(wrap64 (ao + 1)), prs, H', ⟨by have := bs.1; have := bH.1; omega⟩, ⟨by (with_reducible repeat (first | refine blk_drewN ?_ _ | refine blk_drew ?_ | refine blk_alloc ?_ _)); refine bf3 ?_ ah.1; exact pbk aa.1⟩, ⟨pbg⟩⟩
 replace H := ifp H
 obtain ⟨c5, H⟩ := H
 have bu := decide_eq_true c5
 clear c5
 replace H := ifp H
 obtain ⟨c6, H⟩ := H
 have bv := decide_eq_true c6
 clear c6
 by_cases c7 : (((rd_T38 ac ag).f3).length : Int) > 0
 ·rw [if_pos c7] at H
  have bo : decide (0 < (((rd_T38 ac ag).f3).length : Int)) = true := decide_eq_true c7
  have bp : decide (0 < ((rd_T38 ac ag).f3).length) = true := decide_eq_true (by omega)
  clear c7
  obtain rfl := Option.some.inj H
  obtain ⟨bb, bc, aY, aG, aM, aH, aN, aI, aO, aP, aq, ar, au, av, aw, az, aD, aA, aE, aB, aF⟩ := bT38 aC.1 HB.1 ag
  cases aP
  go_wp2_with (first | ((with_reducible refine gate_dst (N := 4) rfl ?_); refine box_ev (N := 4) (cs := #[.string (⟨#[]⟩ : ByteArray), .slice none 0 0, .slice none 0 0, .slice none 0 0, .int .i64 0]) (t := 38) ?_; intro a5 hg w8 hbox hb; have ax := am hbox; have ay := gwb hg; have aX := ay; have ab := nlt hg aa; have ae := ngt hg aa; replace aa := bbh aa hb; replace HB := bst hb; clear hb hbox hg; have bX := ae.1; have bY := ab.1; have bC := cf5 ax.1))
  go_ret
  exact ⟨per, pbg⟩
 rw [if_neg c7] at H
 have bo : decide (0 < (((rd_T38 ac ag).f3).length : Int)) = false := decide_eq_false c7
 have bp : decide (0 < ((rd_T38 ac ag).f3).length) = false := decide_eq_false (by omega)
 clear c7
 replace H := ife H
 rcases H with ⟨aZ, a3, H⟩ | ⟨aZ, a3, H⟩
 rotate_left
 ·obtain rfl := Option.some.inj H
  obtain ⟨bb, bc, aY, aG, aM, aH, aN, aI, aO, aP, aq, ar, au, av, aw, az, aD, aA, aE, aB, aF⟩ := bT38 aC.1 HB.1 ag
  cases aP
  go_wp2_with (first | ((with_reducible refine gate_dst (N := 4) rfl ?_); refine box_ev (N := 4) (cs := #[.string (⟨#[]⟩ : ByteArray), .slice none 0 0, .slice none 0 0, .slice none 0 0, .int .i64 0]) (t := 38) ?_; intro a5 hg b9 hbox hb; have ax := am hbox; have ay := gwb hg; have aX := ay; have ab := nlt hg aa; have ae := ngt hg aa; replace aa := bbh aa hb; replace HB := bst hb; clear hb hbox hg; have bN := ae.1; have bR := ab.1; have bE := cf5 ax.1))
  go_ret
  exact ⟨per, pbg⟩
 have H' := am H
 clear H
 obtain ⟨bb, bc, aY, aG, aM, aH, aN, aI, aO, aP, aq, ar, au, av, aw, az, aD, aA, aE, aB, aF⟩ := bT38 aC.1 HB.1 ag
 cases aP
 go_wp2_with (first | ((with_reducible refine gate_dst (N := 4) rfl ?_); refine box_ev (N := 4) (cs := #[.string (⟨#[]⟩ : ByteArray), .slice none 0 0, .slice none 0 0, .slice none 0 0, .int .i64 0]) (t := 38) ?_; intro a5 hg b8 hbox hb; have ax := am hbox; have ay := gwb hg; have aX := ay; have ab := nlt hg aa; have ae := ngt hg aa; replace aa := bbh aa hb; replace HB := bst hb; clear hb hbox hg; have bM := ae.1; have bQ := ab.1; have bD := cf5 ax.1))
 go_roundg k1
 case measure => have := bs.1; omega
 case rel => exact ⟨(wrap64 (ag + 1)), prs, H', ⟨by have := bs.1; omega⟩, ⟨by (with_reducible repeat (first | refine blk_drewN ?_ _ | refine blk_drew ?_ | refine blk_alloc ?_ _)); refine bf5 ?_ ab.1; exact pbk aa.1⟩, ⟨pbg⟩⟩

/-! ### karpmiller_fits: function 82 -/
def karpmiller_fits.f (k : Nat) (ae : ByteArray) (ab : List (S64)) (ac : List (S38)) (l1 : List Int) : Option (Bool) := (net_Plain.f k ae ab ac).bind fun aq => (if aq = true then ((omega_Valid.f k l1 (ab.length : Int)).bind fun ar => (some ar)) else (some false))
theorem karpmiller_fits.mono : ∀ a0 a1 a2 a3 k, LeO (karpmiller_fits.f k a0 a1 a2 a3) (karpmiller_fits.f (k + 1) a0 a1 a2 a3) := by
 intro a0 a1 a2 a3 k
 unfold karpmiller_fits.f
 repeat' first | (with_reducible first | apply net_Plain.mono | apply omega_Valid.mono | apply lr | apply ln | apply li | refine lb ?_ fun _ => ?_)
set_option maxHeartbeats 8000000 in
set_option maxRecDepth 100000 in
theorem karpmiller_fits.calls (k : Nat) (ae : ByteArray) (au : Option Addr) (ax : Nat) (ab : List (S64)) (av : Option Addr) (ay : Nat) (ac : List (S38)) (A1 : Option Addr) (c1 : Nat) (l1 : List Int) (r : Bool) (w : World) (ao : Kd.C k64 w au ab.length ab) (ak : ab.length ≤ ax) (ap : Kd.C k38 w av ac.length ac) (al : ac.length ≤ ay) (hr1 : Kd.C (Kd.int .i64) w A1 l1.length l1) (aA : l1.length ≤ c1) (h : karpmiller_fits.f k ae ab ac l1 = some r) :
  Calls Try.prog 82 #[.agg #[.string ae, .slice au ab.length ax, .slice av ac.length ay], .slice A1 l1.length c1] w fun e w' => e = .returned (.bool r) ∧ Below w.heap.size w w' := by
 have aD := Try.underlying25
 have ai := am ao
 have ag := am ak
 clear ao ak
 have aj := am ap
 have ah := am al
 clear ap al
 have aC := am hr1
 have aB := am aA
 clear hr1 aA
 have HB := am (Below.refl w.heap.size w)
 have H := h
 unfold karpmiller_fits.f at H
 clear h
 replace H := bnd H
 obtain ⟨aq, A3, H⟩ := H
 (try dsimp only at H)
 cases aq
 ·rw [if_neg Bool.false_ne_true] at H
  obtain rfl := Option.some.inj H
  go_enter Try.func82, Try.ntmps82
  go_wp2_with (first | ((with_reducible refine gate_dst (N := 2) rfl ?_); (try (refine gate_guard (by rfl) ?_; dsimp only)); refine box_ev ?_; intro az hg aG hbox hb; have aa := am hbox; have af := gwl hg; have aw := af; replace HB := bsl hb; clear hb hbox hg; have aE := cf3 aa.1) | ((with_reducible refine gate_callee (f := 63) rfl ?_); refine gC 6 Try.func63 _ (net_Plain.calls k ae _ _ ab _ _ ac false _ (csb ai HB) ag.1 (csb aj HB) ah.1 A3.1) ?_; rintro e aH ⟨rfl, hb⟩; refine ⟨_, rfl, ?_⟩; replace aa := bbh aa hb; replace HB := bst hb; (try clear hb)))
  go_ret
  exact ⟨per, pbg⟩
 rw [if_pos rfl] at H
 replace H := bnd H
 obtain ⟨ar, A5, H⟩ := H
 (try dsimp only at H)
 obtain rfl := Option.some.inj H
 go_enter Try.func82, Try.ntmps82
 go_wp2_with (first | ((with_reducible refine gate_dst (N := 2) rfl ?_); (try (refine gate_guard (by rfl) ?_; dsimp only)); refine box_ev ?_; intro az hg w6 hbox hb; have aa := am hbox; have af := gwl hg; have aw := af; replace HB := bsl hb; clear hb hbox hg; have aI := cf3 aa.1) | ((with_reducible refine gate_callee (f := 63) rfl ?_); refine gC 6 Try.func63 _ (net_Plain.calls k ae _ _ ab _ _ ac true _ (csb ai HB) ag.1 (csb aj HB) ah.1 A3.1) ?_; rintro e w8 ⟨rfl, hb⟩; refine ⟨_, rfl, ?_⟩; replace aa := bbh aa hb; replace HB := bst hb; (try clear hb); have aJ := cf3 aa.1) | (go_at_call 69; (with_reducible refine (omega_Valid.calls k _ _ l1 (ab.length : Int) ar _ ?side1 ?side2 A5.1).mono ?_); (case side1 => exact csb aC HB); (case side2 => exact aB.1); rintro e aF ⟨rfl, hb⟩; replace aa := bbh aa hb; replace HB := bst hb; (try clear hb)))
 go_ret
 exact ⟨per, pbg⟩

/-! ### karpmiller_Enabled: function 46 -/
def karpmiller_Enabled.l0 : Nat → List Int → List Int → List (S38) → Int → Int → Option (List Int)
 | 0, _, _, _, _, _ => none
 | k + 1, x1, x5, x13, x14, x15 => if x15 < x14 then (if 0 ≤ x15 then (if x15 < (x13.length : Int) then ((karpmiller_enabled.f k ((rd_T38 x13 x15).f0) ((rd_T38 x13 x15).f1) ((rd_T38 x13 x15).f2) ((rd_T38 x13 x15).f3) ((rd_T38 x13 x15).f4) x1).bind fun a9 => (if a9 = true then (if x5.length < 17592186044416 then (karpmiller_Enabled.l0 k x1 (x5 ++ [x15]) x13 x14 (wrap64 (x15 + 1))) else (none)) else (karpmiller_Enabled.l0 k x1 x5 x13 x14 (wrap64 (x15 + 1))))) else (none)) else (none)) else (some x5)
def karpmiller_Enabled.f (k : Nat) (ax : ByteArray) (ai : List (S64)) (ac : List (S38)) (l1 : List Int) : Option (List Int) := (karpmiller_fits.f k ax ai ac l1).bind fun a8 => (if a8 = true then (karpmiller_Enabled.l0 k l1 ([] : List Int) ac (ac.length : Int) 0) else (some ([] : List Int)))
theorem karpmiller_Enabled.mono_l : ∀ k, M5 karpmiller_Enabled.l0 k
 | 0 => fun _ _ _ _ _ r h => by simp [karpmiller_Enabled.l0] at h
 | k + 1 => by
  have bm := karpmiller_Enabled.mono_l k
  ·intro y0 y1 y2 y3 y4
   unfold karpmiller_Enabled.l0
   repeat' first | (with_reducible first | apply bm | apply karpmiller_enabled.mono | apply karpmiller_fits.mono | apply lr | apply ln | apply li | refine lb ?_ fun _ => ?_)
theorem karpmiller_Enabled.mono : ∀ a0 a1 a2 a3 k, LeO (karpmiller_Enabled.f k a0 a1 a2 a3) (karpmiller_Enabled.f (k + 1) a0 a1 a2 a3) := by
 intro a0 a1 a2 a3 k
 have bm := karpmiller_Enabled.mono_l k
 unfold karpmiller_Enabled.f
 repeat' first | (with_reducible first | apply bm | apply karpmiller_enabled.mono | apply karpmiller_fits.mono | apply lr | apply ln | apply li | refine lb ?_ fun _ => ?_)
set_option maxHeartbeats 8000000 in
set_option maxRecDepth 100000 in
theorem karpmiller_Enabled.calls (k : Nat) (ax : ByteArray) (aZ : Option Addr) (a5 : Nat) (ai : List (S64)) (a4 : Option Addr) (a6 : Nat) (ac : List (S38)) (A1 : Option Addr) (c1 : Nat) (l1 : List Int) (r : List Int) (w : World) (aX : Kd.C k64 w aZ ai.length ai) (aV : ai.length ≤ a5) (aY : Kd.C k38 w a4 ac.length ac) (aW : ac.length ≤ a6) (hr1 : Kd.C (Kd.int .i64) w A1 l1.length l1) (bu : l1.length ≤ c1) (h : karpmiller_Enabled.f k ax ai ac l1 = some r) :
  Calls Try.prog 46 #[.agg #[.string ax, .slice aZ ai.length a5, .slice a4 ac.length a6], .slice A1 l1.length c1] w fun e w' => ∃ v0_ : Value, e = .returned (v0_) ∧ Kd.R (Kd.int .i64) 3 w' w.heap.size (fun _ => True) v0_ r ∧ Below w.heap.size w w' := by
 have bA := Try.underlying25
 have bB := Try.underlying38
 have aT := am aX
 have aQ := am aV
 clear aX aV
 have aC := am aY
 have aR := am aW
 clear aY aW
 have bk := am hr1
 have bi := am bu
 clear hr1 bu
 have HB := am (Below.refl w.heap.size w)
 have H := h
 unfold karpmiller_Enabled.f at H
 clear h
 replace H := bnd H
 obtain ⟨a8, A3, H⟩ := H
 (try dsimp only at H)
 cases a8
 ·rw [if_neg Bool.false_ne_true] at H
  obtain rfl := Option.some.inj H
  go_enter Try.func46, Try.ntmps46
  go_wp2_with (first | ((with_reducible refine gate_dst (N := 2) rfl ?_); refine box_ev ?_; intro aU hg bO hbox hb; have ab := am hbox; have aE := gwl hg; have ba := aE; replace HB := bsl hb; clear hb hbox hg; have bG := cf3 ab.1) | ((with_reducible refine gate_callee (f := 82) rfl ?_); refine gC 10 Try.func82 _ (karpmiller_fits.calls k ax _ _ ai _ _ ac _ _ l1 false _ (csb aT HB) aQ.1 (csb aC HB) aR.1 (csb bk HB) bi.1 A3.1) ?_; rintro e bP ⟨rfl, hb⟩; refine ⟨_, rfl, ?_⟩; replace ab := bbh ab hb; replace HB := bst hb; (try clear hb)))
  go_ret
  exact ⟨_, per, knl, pbg⟩
 rw [if_pos rfl] at H
 have H' := am H
 clear H
 go_enter Try.func46, Try.ntmps46
 go_wp2_with (first | ((with_reducible refine gate_dst (N := 2) rfl ?_); refine box_ev ?_; intro aU hg w5 hbox hb; have ab := am hbox; have aE := gwl hg; have ba := aE; replace HB := bsl hb; clear hb hbox hg; have bH := cf3 ab.1) | ((with_reducible refine gate_callee (f := 82) rfl ?_); refine gC 10 Try.func82 _ (karpmiller_fits.calls k ax _ _ ai _ _ ac _ _ l1 true _ (csb aT HB) aQ.1 (csb aC HB) aR.1 (csb bk HB) bi.1 A3.1) ?_; rintro e w7 ⟨rfl, hb⟩; refine ⟨_, rfl, ?_⟩; replace ab := bbh ab hb; replace HB := bst hb; (try clear hb); have bI := cf3 ab.1))
 go_loopg [5, 15] k (fun kq v5 bC w' => ∃ (aD : List Int) (aa : Int), bC = .int .i64 aa ∧ Aside0 (karpmiller_Enabled.l0 kq l1 aD ac (ac.length : Int) aa = some r) ∧ Aside0 (kq ≤ k) ∧ Aside0 (Kd.R (Kd.int .i64) 3 w' w.heap.size (fun _ => True) v5 aD) ∧ Aside0 (w'.heap[aU]? = some (.cells #[.string ax, (.slice aZ ai.length a5), (.slice a4 ac.length a6)] 25 (0, 0))) ∧ Aside0 (Below w.heap.size w w'))
 case atStart => exact ⟨(([] : List Int)), (0), prs, H', ⟨Nat.le_refl _⟩, ⟨knl⟩, ⟨pbk ab.1⟩, ⟨pbg⟩⟩
 clear H'
 try clear c1 bH bI
 obtain ⟨aD, aa, rfl, HA, bj, ag, ab, HB⟩ := hrel
 obtain _ | k1 := gk
 ·exact absurd HA.1 (by simp [karpmiller_Enabled.l0])
 have H := HA.1
 clear HA
 simp only [karpmiller_Enabled.l0] at H
 replace H := ifl H
 rcases H with ⟨bl, H⟩ | ⟨bl, H⟩
 rotate_left
 ·obtain rfl := Option.some.inj H
  go_wp2
  go_ret
  exact ⟨_, per, by (with_reducible repeat (first | apply Kd.R_alloc | apply Kd.R_drewN | apply Kd.R_drew)); exact ag.1, pbg⟩
 replace H := ifp H
 obtain ⟨c10, H⟩ := H
 have bp := decide_eq_true c10
 clear c10
 replace H := ifp H
 obtain ⟨bq, H⟩ := H
 have br := decide_eq_true bq
 clear bq
 replace H := bnd H
 obtain ⟨a9, A12, H⟩ := H
 (try dsimp only at H)
 cases a9
 ·rw [if_neg Bool.false_ne_true] at H
  have H' := am H
  clear H
  obtain ⟨bn, bo, bg, au, ay, av, az, aw, aA, a7, aI, aJ, aK, aM, aN, aj, ao, ak, ap, al, aq⟩ := bT38 aC.1 HB.1 aa
  cases a7
  go_wp2_with (first | ((with_reducible refine gate_dst (N := 7) rfl ?_); refine box_ev (N := 7) (cs := #[.string (⟨#[]⟩ : ByteArray), .slice none 0 0, .slice none 0 0, .slice none 0 0, .int .i64 0]) (t := 38) ?_; intro ar hg bM hbox hb; have af := am hbox; have aG := gwb hg; have bb := aG; have ae := nlt hg ab; have ah := ngt hg ab; replace ag := rbw ag hb; replace ab := bbh ab hb; replace HB := bst hb; clear hb hbox hg; have bw := ah.1; have bz := ae.1; have bF := cf5 af.1) | ((with_reducible refine gate_callee (f := 83) rfl ?_); refine gC 22 Try.func83 _ (karpmiller_enabled.calls k1 ((rd_T38 ac aa).f0) _ _ ((rd_T38 ac aa).f1) _ _ ((rd_T38 ac aa).f2) _ _ ((rd_T38 ac aa).f3) ((rd_T38 ac aa).f4) _ _ l1 false _ (Kd.C_below ao.1 pbg) aj.1 (Kd.C_below ap.1 pbg) ak.1 (Kd.C_below aq.1 pbg) al.1 (Kd.C_below bk.1 pbg) bi.1 A12.1) ?_; rintro e bN ⟨rfl, hb⟩; refine ⟨_, rfl, ?_⟩; replace ag := am (Kd.R_below (by (with_reducible repeat (first | apply Kd.R_alloc | apply Kd.R_drewN | apply Kd.R_drew)); exact (Kd.R_mono (fR5 ar (Kd.R_types ag.1 af.1 (by decide)) (fun _ hk => hk.2)) (fun _ h_ => h_.1))) hb); replace ab := bbx ab (fun h_ => by (with_reducible repeat (first | refine blk_drewN ?_ _ | refine blk_drew ?_ | refine blk_alloc ?_ _)); refine bf5 ?_ ae.1; exact pbk h_) hb; replace af := am (blk_below (g := ar) (o := .cells #[.string ((rd_T38 ac aa).f0), .slice au ((rd_T38 ac aa).f1).length ay, .slice av ((rd_T38 ac aa).f2).length az, .slice aw ((rd_T38 ac aa).f3).length aA, .int .i64 ((rd_T38 ac aa).f4)] 38 (0, 0)) (by (with_reducible repeat (first | refine blk_drewN ?_ _ | refine blk_drew ?_ | refine blk_alloc ?_ _)); exact bp5 (pbk af.1)) hb); replace HB := bst hb; (try clear hb); (try clear hk)))
  go_roundg k1
  case measure => have := bj.1; omega
  case rel => exact ⟨(aD), (wrap64 (aa + 1)), prs, H', ⟨by have := bj.1; omega⟩, ⟨pkr ag.1⟩, ⟨pbk ab.1⟩, ⟨pbg⟩⟩
 rw [if_pos rfl] at H
 replace H := ifp H
 obtain ⟨bs, H⟩ := H
 have bd := am bs
 clear bs
 obtain ⟨bh, aH⟩ : ∃ y_ : List Int, y_ = (aD ++ [aa]) := ⟨_, rfl⟩
 replace H : (karpmiller_Enabled.l0 k1 l1 bh ac (ac.length : Int) (wrap64 (aa + 1))) = some r := hrp aH H
 have bf := am aH
 clear aH
 have H' := am H
 clear H
 obtain ⟨bn, bo, bg, au, ay, av, az, aw, aA, a7, aI, aJ, aK, aM, aN, aj, ao, ak, ap, al, aq⟩ := bT38 aC.1 HB.1 aa
 cases a7
 go_wp2_with (first | ((with_reducible refine gate_dst (N := 7) rfl ?_); refine box_ev (N := 7) (cs := #[.string (⟨#[]⟩ : ByteArray), .slice none 0 0, .slice none 0 0, .slice none 0 0, .int .i64 0]) (t := 38) ?_; intro ar hg bJ hbox hb; have af := am hbox; have aG := gwb hg; have bb := aG; have ae := nlt hg ab; have ah := ngt hg ab; replace ag := rbw ag hb; replace ab := bbh ab hb; replace HB := bst hb; clear hb hbox hg; have bv := ah.1; have bx := ae.1; have bE := cf5 af.1) | ((with_reducible refine gate_callee (f := 83) rfl ?_); refine gC 22 Try.func83 _ (karpmiller_enabled.calls k1 ((rd_T38 ac aa).f0) _ _ ((rd_T38 ac aa).f1) _ _ ((rd_T38 ac aa).f2) _ _ ((rd_T38 ac aa).f3) ((rd_T38 ac aa).f4) _ _ l1 true _ (Kd.C_below ao.1 pbg) aj.1 (Kd.C_below ap.1 pbg) ak.1 (Kd.C_below aq.1 pbg) al.1 (Kd.C_below bk.1 pbg) bi.1 A12.1) ?_; rintro e bK ⟨rfl, hb⟩; refine ⟨_, rfl, ?_⟩; replace ag := am (Kd.R_below (by (with_reducible repeat (first | apply Kd.R_alloc | apply Kd.R_drewN | apply Kd.R_drew)); exact (Kd.R_mono (fR5 ar (Kd.R_types ag.1 af.1 (by decide)) (fun _ hk => hk.2)) (fun _ h_ => h_.1))) hb); replace ab := bbx ab (fun h_ => by (with_reducible repeat (first | refine blk_drewN ?_ _ | refine blk_drew ?_ | refine blk_alloc ?_ _)); refine bf5 ?_ ae.1; exact pbk h_) hb; replace af := am (blk_below (g := ar) (o := .cells #[.string ((rd_T38 ac aa).f0), .slice au ((rd_T38 ac aa).f1).length ay, .slice av ((rd_T38 ac aa).f2).length az, .slice aw ((rd_T38 ac aa).f3).length aA, .int .i64 ((rd_T38 ac aa).f4)] 38 (0, 0)) (by (with_reducible repeat (first | refine blk_drewN ?_ _ | refine blk_drew ?_ | refine blk_alloc ?_ _)); exact bp5 (pbk af.1)) hb); replace HB := bst hb; (try clear hb); (try clear hk)) | ((with_reducible refine gate_builtin (b := .append) (xs := #[.tmp 23, .tmp 25]) rfl ?_); at_builtin; refine Kd.R_append (Kd.int .i64) (w0 := w) w.heap.size rfl (.tmp 23) (.tmp 25) 39 3 (.int .i64 0) 8 rfl Try.underlying39 info3 rfl (by decide) (by omega) u5 aD aa [.int .i64 aa] (fun _ => True) (fun _ => False) rfl rfl ?aP (fun _ hk => hk.elim) ?aF ?aO ?aB ?aS ?aL ?_; (case aP => exact rfl); (case aB => exact pbg); (case aF => exact (fun _ _ => trivial)); (case aO => exact (pkr ag.1)); (case aS => exact (below_size pbg)); (case aL => have := bd.1; omega); intro bD bL ho hb hg hat; rw [← bf.1] at ho; have bc := am ho; replace ab := (bgr ab hg (Kd.R_ne ag.1 ab.1 (by decide))); replace af := (bgr af hg (Kd.R_ne ag.1 af.1 (by decide))); replace HB := am hb; clear ag; clear ho hb hg hat))
 go_roundg k1
 case measure => have := bj.1; omega
 case rel => exact ⟨(bh), (wrap64 (aa + 1)), prs, H', ⟨by have := bj.1; omega⟩, ⟨pkr bc.1⟩, ⟨pbk ab.1⟩, ⟨pbg⟩⟩

/-! ### net_Initial: function 64 -/
def net_Initial.l0 : Nat → List Int → List (S64) → Int → Int → Option (List Int)
 | 0, _, _, _, _ => none
 | k + 1, x3, x10, x11, x12 => if x12 < x11 then (if 0 ≤ x12 then (if x12 < (x10.length : Int) then (if x3.length < 17592186044416 then (net_Initial.l0 k (x3 ++ [(rd_T64 x10 x12).f1]) x10 x11 (wrap64 (x12 + 1))) else (none)) else (none)) else (none)) else (some x3)
def net_Initial.f (k : Nat) (ai : ByteArray) (ab : List (S64)) (ae : List (S38)) : Option (List Int) := (net_valid.f k ai ab ae).bind fun aH => (if aH = true then (net_Initial.l0 k ([] : List Int) ab (ab.length : Int) 0) else (some ([] : List Int)))
theorem net_Initial.mono_l : ∀ k, M4 net_Initial.l0 k
 | 0 => fun _ _ _ _ r h => by simp [net_Initial.l0] at h
 | k + 1 => by
  have aX := net_Initial.mono_l k
  ·intro y0 y1 y2 y3
   unfold net_Initial.l0
   repeat' first | (with_reducible first | apply aX | apply net_valid.mono | apply lr | apply ln | apply li | refine lb ?_ fun _ => ?_)
theorem net_Initial.mono : ∀ a0 a1 a2 k, LeO (net_Initial.f k a0 a1 a2) (net_Initial.f (k + 1) a0 a1 a2) := by
 intro a0 a1 a2 k
 have aX := net_Initial.mono_l k
 unfold net_Initial.f
 repeat' first | (with_reducible first | apply aX | apply net_valid.mono | apply lr | apply ln | apply li | refine lb ?_ fun _ => ?_)
set_option maxHeartbeats 8000000 in
set_option maxRecDepth 100000 in
theorem net_Initial.calls (k : Nat) (ai : ByteArray) (aC : Option Addr) (aE : Nat) (ab : List (S64)) (aD : Option Addr) (aG : Nat) (ae : List (S38)) (r : List Int) (w : World) (az : Kd.C k64 w aC ab.length ab) (ax : ab.length ≤ aE) (aA : Kd.C k38 w aD ae.length ae) (ay : ae.length ≤ aG) (h : net_Initial.f k ai ab ae = some r) :
  Calls Try.prog 64 #[.agg #[.string ai, .slice aC ab.length aE, .slice aD ae.length aG]] w fun e w' => ∃ v0_ : Value, e = .returned (v0_) ∧ Kd.R (Kd.int .i64) 3 w' w.heap.size (fun _ => True) v0_ r ∧ Below w.heap.size w w' := by
 have a9 := Try.underlying25
 have ba := Try.underlying64
 have al := am az
 have aq := am ax
 clear az ax
 have au := am aA
 have ar := am ay
 clear aA ay
 have HB := am (Below.refl w.heap.size w)
 have H := h
 unfold net_Initial.f at H
 clear h
 replace H := bnd H
 obtain ⟨aH, A2, H⟩ := H
 (try dsimp only at H)
 cases aH
 ·rw [if_neg Bool.false_ne_true] at H
  obtain rfl := Option.some.inj H
  go_enter Try.func64, Try.ntmps64
  go_wp2_with (first | ((with_reducible refine gate_dst (N := 1) rfl ?_); refine box_ev ?_; intro av hg bm hbox hb; have aa := am hbox; have ak := gwl hg; have aI := ak; replace HB := bsl hb; clear hb hbox hg; have bh := cf3 aa.1) | ((with_reducible refine gate_callee (f := 96) rfl ?_); refine gC 7 Try.func96 _ (net_valid.calls k ai _ _ ab _ _ ae false _ (csb al HB) aq.1 (csb au HB) ar.1 A2.1) ?_; rintro e bn ⟨rfl, hb⟩; refine ⟨_, rfl, ?_⟩; replace aa := bbh aa hb; replace HB := bst hb; (try clear hb)))
  go_ret
  exact ⟨_, per, knl, pbg⟩
 rw [if_pos rfl] at H
 have H' := am H
 clear H
 go_enter Try.func64, Try.ntmps64
 go_wp2_with (first | ((with_reducible refine gate_dst (N := 1) rfl ?_); refine box_ev ?_; intro av hg w4 hbox hb; have aa := am hbox; have ak := gwl hg; have aI := ak; replace HB := bsl hb; clear hb hbox hg; have bi := cf3 aa.1) | ((with_reducible refine gate_callee (f := 96) rfl ?_); refine gC 7 Try.func96 _ (net_valid.calls k ai _ _ ab _ _ ae true _ (csb al HB) aq.1 (csb au HB) ar.1 A2.1) ?_; rintro e w6 ⟨rfl, hb⟩; refine ⟨_, rfl, ?_⟩; replace aa := bbh aa hb; replace HB := bst hb; (try clear hb); have bj := cf3 aa.1))
 go_loopg [3, 12] k (fun kq v3 bd w' => ∃ (ap : List Int) (ac : Int), bd = .int .i64 ac ∧ Aside0 (net_Initial.l0 kq ap ab (ab.length : Int) ac = some r) ∧ Aside0 (kq ≤ k) ∧ Aside0 (Kd.R (Kd.int .i64) 3 w' w.heap.size (fun _ => True) v3 ap) ∧ Aside0 (w'.heap[av]? = some (.cells #[.string ai, (.slice aC ab.length aE), (.slice aD ae.length aG)] 25 (0, 0))) ∧ Aside0 (Below w.heap.size w w'))
 case atStart => exact ⟨(([] : List Int)), (0), prs, H', ⟨Nat.le_refl _⟩, ⟨knl⟩, ⟨pbk aa.1⟩, ⟨pbg⟩⟩
 clear H'
 try clear bi bj
 obtain ⟨ap, ac, rfl, HA, aZ, ah, aa, HB⟩ := hrel
 obtain _ | k1 := gk
 ·exact absurd HA.1 (by simp [net_Initial.l0])
 have H := HA.1
 clear HA
 simp only [net_Initial.l0] at H
 replace H := ifl H
 rcases H with ⟨aV, H⟩ | ⟨aV, H⟩
 rotate_left
 ·obtain rfl := Option.some.inj H
  go_wp2
  go_ret
  exact ⟨_, per, by (with_reducible repeat (first | apply Kd.R_alloc | apply Kd.R_drewN | apply Kd.R_drew)); exact ah.1, pbg⟩
 replace H := ifp H
 obtain ⟨c9, H⟩ := H
 have a8 := decide_eq_true c9
 clear c9
 replace H := ifp H
 obtain ⟨c10, H⟩ := H
 have a4 := decide_eq_true c10
 clear c10
 replace H := ifp H
 obtain ⟨a5, H⟩ := H
 have aM := am a5
 clear a5
 obtain ⟨aQ, ao⟩ : ∃ y_ : List Int, y_ = (ap ++ [(rd_T64 ab ac).f1]) := ⟨_, rfl⟩
 replace H : (net_Initial.l0 k1 aQ ab (ab.length : Int) (wrap64 (ac + 1))) = some r := hrp ao H
 have aN := am ao
 clear ao
 have H' := am H
 clear H
 obtain ⟨bb, bc, a3, aW, aR, aT, aU⟩ := bT64 al.1 HB.1 ac
 cases aW
 go_wp2_with (first | ((with_reducible refine gate_dst (N := 5) rfl ?_); refine box_ev (N := 5) (cs := #[.string (⟨#[]⟩ : ByteArray), .int .i64 0, .int .i64 0]) (t := 64) ?_; intro aw hg bk hbox hb; have ag := am hbox; have aJ := gwb hg; have aY := aJ; have af := nlt hg aa; have aj := ngt hg aa; replace ah := rbw ah hb; replace aa := bbh aa hb; replace HB := bst hb; clear hb hbox hg; have a6 := aj.1; have a7 := af.1; have bg := cf3 ag.1) | ((with_reducible refine gate_builtin (b := .append) (xs := #[.tmp 16, .tmp 19]) rfl ?_); at_builtin; refine Kd.R_append (Kd.int .i64) (w0 := w) w.heap.size rfl (.tmp 16) (.tmp 19) 39 3 (.int .i64 0) 8 rfl Try.underlying39 info3 rfl (by decide) (by omega) u3 ap ((rd_T64 ab ac).f1) [.int .i64 ((rd_T64 ab ac).f1)] (fun _ => True) (fun _ => False) rfl (by first | (go_simp; done) | (go_simp; rfl)) ?aP (fun _ hk => hk.elim) ?aF ?aO ?aB ?aS ?aL ?_; (case aP => exact rfl); (case aB => exact pbg); (case aF => exact (fun _ _ => trivial)); (case aO => exact (by (with_reducible repeat (first | apply Kd.R_alloc | apply Kd.R_drewN | apply Kd.R_drew)); exact Kd.R_mono (fR3 aw (Kd.R_types ah.1 ag.1 (by decide)) (fun _ hk => hk.2)) (fun _ hk => trivial))); (case aS => exact (below_size pbg)); (case aL => have := aM.1; omega); intro bf bl ho hb hg hat; rw [← aN.1] at ho; have aK := am ho; replace aa := (bgx aa (fun h_ => by (with_reducible repeat (first | refine blk_drewN ?_ _ | refine blk_drew ?_ | refine blk_alloc ?_ _)); refine bf3 ?_ af.1; exact pbk h_) hg (Kd.R_ne ah.1 aa.1 (by decide))); replace ag := am (blk_grown (g := aw) (o := .cells #[.string ((rd_T64 ab ac).f0), .int .i64 ((rd_T64 ab ac).f1), .int .i64 ((rd_T64 ab ac).f2)] 64 (0, 0)) (by (with_reducible repeat (first | refine blk_drewN ?_ _ | refine blk_drew ?_ | refine blk_alloc ?_ _)); exact bp3 (pbk ag.1)) hg (Kd.R_ne ah.1 ag.1 (by decide))); replace HB := am hb; clear ah; clear ho hb hg hat))
 go_roundg k1
 case measure => have := aZ.1; omega
 case rel => exact ⟨(aQ), (wrap64 (ac + 1)), prs, H', ⟨by have := aZ.1; omega⟩, ⟨pkr aK.1⟩, ⟨pbk aa.1⟩, ⟨pbg⟩⟩

/-! ### karpmiller_move: function 97 -/
-- IMPORTS Derived.Test.YtaoogghpadifiaaCopy
mutual
def karpmiller_move.l0 : Nat → List Int → List (S68) → Int → Int → ByteArray → List (S68) → List (S68) → List (S68) → Int → Option (List Int × Bool)
 | 0, _, _, _, _, _, _, _, _, _ => none
 | k + 1, x6, bK, dv, bI, bl, bm, aO, bn, bo => if bI < dv then (if 0 ≤ bI then (if bI < (bK.length : Int) then (if 0 ≤ ((rd_T68 bK bI).f0) then (if ((rd_T68 bK bI).f0) < (x6.length : Int) then (if (rd x6 ((rd_T68 bK bI).f0)) = (-1) then (karpmiller_move.l0 k x6 bK dv (wrap64 (bI + 1)) bl bm aO bn bo) else (karpmiller_move.l0 k (x6.set (((rd_T68 bK bI).f0) : Int).toNat (wrap64 ((rd x6 ((rd_T68 bK bI).f0)) - ((rd_T68 bK bI).f1)))) bK dv (wrap64 (bI + 1)) bl bm aO bn bo)) else (none)) else (none)) else (none)) else (none)) else (karpmiller_move.l1 k x6 aO (aO.length : Int) 0)
def karpmiller_move.l1 : Nat → List Int → List (S68) → Int → Int → Option (List Int × Bool)
 | 0, _, _, _, _ => none
 | k + 1, x6, br, dw, bp => if bp < dw then (if 0 ≤ bp then (if bp < (br.length : Int) then (if 0 ≤ ((rd_T68 br bp).f0) then (if ((rd_T68 br bp).f0) < (x6.length : Int) then (if (rd x6 ((rd_T68 br bp).f0)) = (-1) then (if (rd x6 ((rd_T68 br bp).f0)) > 1048576 then (some (([] : List Int), false)) else (karpmiller_move.l1 k x6 br dw (wrap64 (bp + 1)))) else (if (wrap64 ((rd x6 ((rd_T68 br bp).f0)) + ((rd_T68 br bp).f1))) > 1048576 then (some (([] : List Int), false)) else (karpmiller_move.l1 k (x6.set (((rd_T68 br bp).f0) : Int).toNat (wrap64 ((rd x6 ((rd_T68 br bp).f0)) + ((rd_T68 br bp).f1)))) br dw (wrap64 (bp + 1))))) else (none)) else (none)) else (none)) else (none)) else (some (x6, true))
end
def karpmiller_move.f (k : Nat) (aL : ByteArray) (ai : List (S68)) (ab : List (S68)) (aH : List (S68)) (aM : Int) (l1 : List Int) : Option (List Int × Bool) := if 0 ≤ (l1.length : Int) then (if ((l1.length : Int) : Int).toNat ≤ 35184372088832 then (karpmiller_move.l0 k (cpy (List.replicate ((l1.length : Int) : Int).toNat 0) l1) ai (ai.length : Int) 0 aL ai ab aH aM) else (none)) else (none)
theorem karpmiller_move.mono_l : ∀ k, M9 karpmiller_move.l0 k ∧ M4 karpmiller_move.l1 k
 | 0 => ⟨fun _ _ _ _ _ _ _ _ _ r h => by simp [karpmiller_move.l0] at h, fun _ _ _ _ r h => by simp [karpmiller_move.l1] at h⟩
 | k + 1 => by
  obtain ⟨dm, dn⟩ := karpmiller_move.mono_l k
  refine ⟨?_, ?_⟩ <;> dsimp only [M4, M9] <;> intros <;> (first | unfold karpmiller_move.l0 | unfold karpmiller_move.l1) <;> repeat' first | (with_reducible first | apply dm | apply dn | apply lr | apply ln | apply li | refine lb ?_ fun _ => ?_)
theorem karpmiller_move.mono : ∀ a0 a1 a2 a3 a4 a5 k, LeO (karpmiller_move.f k a0 a1 a2 a3 a4 a5) (karpmiller_move.f (k + 1) a0 a1 a2 a3 a4 a5) := by
 intro a0 a1 a2 a3 a4 a5 k
 obtain ⟨dm, dn⟩ := karpmiller_move.mono_l k
 unfold karpmiller_move.f
 repeat' first | (with_reducible first | apply dm | apply dn | apply lr | apply ln | apply li | refine lb ?_ fun _ => ?_)
def karpmiller_move.T7 : Bool × List (List Nat × List Nat) := (true, [([], []), ([], []), ([1], [1]), ([0, 2], [0, 2]), ([3], [3]), ([], []), ([5], [5]), ([4, 6], [4, 6]), ([0, 2, 0, 1, 2, 3, 4, 5, 6, 7], [0, 2]), ([8, 7, 0, 1, 2, 3, 4, 5, 6, 7], [7, 8])])
def karpmiller_move.B7 : List Nat := [0, 0, 2, 7, 15, 0, 32, 127, 255, 511]
theorem karpmiller_move.tab7 : rtab .any (opsOf Try.f97 7) = karpmiller_move.T7 := by kernel_rfl
theorem karpmiller_move.bits7 : waitsOk karpmiller_move.T7.2 karpmiller_move.B7 = true := by kernel_rfl
def karpmiller_move.T13 : Bool × List (List Nat × List Nat) := (true, [([], []), ([], []), ([1], [1]), ([0, 2], [0, 2]), ([3], [3]), ([], []), ([5], [5]), ([4, 6], [4, 6]), ([0, 2, 0, 1, 2, 3, 4, 5, 6, 7], [0, 2]), ([8, 7, 0, 1, 2, 3, 4, 5, 6, 7], [7, 8])])
def karpmiller_move.B13 : List Nat := [0, 0, 2, 7, 15, 0, 32, 127, 255, 511]
theorem karpmiller_move.tab13 : rtab .any (opsOf Try.f97 13) = karpmiller_move.T13 := by kernel_rfl
theorem karpmiller_move.bits13 : waitsOk karpmiller_move.T13.2 karpmiller_move.B13 = true := by kernel_rfl
set_option maxHeartbeats 8000000 in
set_option maxRecDepth 100000 in
theorem karpmiller_move.calls (k : Nat) (aL : ByteArray) (bq : Option Addr) (a7 : Nat) (ai : List (S68)) (bs : Option Addr) (a8 : Nat) (ab : List (S68)) (a6 : Option Addr) (a9 : Nat) (aH : List (S68)) (aM : Int) (A1 : Option Addr) (c1 : Nat) (l1 : List Int) (r1 : List Int) (r2 : Bool) (w : World) (bX : Kd.C k68 w bq ai.length ai) (bU : ai.length ≤ a7) (bY : Kd.C k68 w bs ab.length ab) (bV : ab.length ≤ a8) (bZ : Kd.C k68 w a6 aH.length aH) (bW : aH.length ≤ a9) (hr1 : Kd.C (Kd.int .i64) w A1 l1.length l1) (dM : l1.length ≤ c1) (h : karpmiller_move.f k aL ai ab aH aM l1 = some (r1, r2)) :
  Calls Try.prog 97 #[.agg #[.string aL, .slice bq ai.length a7, .slice bs ab.length a8, .slice a6 aH.length a9, .int .i64 aM], .slice A1 l1.length c1] w fun e w' => ∃ v0_ : Value, e = .returned (.tuple #[v0_, .bool r2]) ∧ Kd.R (Kd.int .i64) 3 w' w.heap.size (fun _ => True) v0_ r1 ∧ Below w.heap.size w w' := by
 have d9 := Try.underlying38
 have ea := Try.underlying68
 have bM := am bX
 have dC := am bU
 clear bX bU
 have bh := am bY
 have dD := am bV
 clear bY bV
 have dF := am bZ
 have dE := am bW
 clear bZ bW
 have d5 := am hr1
 have em := am dM
 clear hr1 dM
 have HB := am (Below.refl w.heap.size w)
 have H := h
 unfold karpmiller_move.f at H
 clear h
 replace H := ifp H
 obtain ⟨c3, H⟩ := H
 have cy := eq_true c3
 have cz : decide (0 ≤ (l1.length : Int)) = true := decide_eq_true c3
 clear c3
 replace H := ifp H
 obtain ⟨c4, H⟩ := H
 have cB := eq_true c4
 have cC : decide (((l1.length : Int) : Int).toNat ≤ 35184372088832) = true := decide_eq_true c4
 clear c4
 obtain ⟨bJ, bE⟩ : ∃ y_ : List Int, y_ = (List.replicate ((l1.length : Int) : Int).toNat 0) := ⟨_, rfl⟩
 replace H : (karpmiller_move.l0 k (cpy bJ l1) ai (ai.length : Int) 0 aL ai ab aH aM) = some (r1, r2) := hrp bE H
 have bN := am bE
 clear bE
 obtain ⟨cN, bF⟩ : ∃ y_ : List Int, y_ = (cpy bJ l1) := ⟨_, rfl⟩
 replace H : (karpmiller_move.l0 k cN ai (ai.length : Int) 0 aL ai ab aH aM) = some (r1, r2) := hrp bF H
 have cm := am bF
 clear bF
 have H' := am H
 clear H
 go_enter Try.func97, Try.ntmps97
 go_wp2_with (first | ((with_reducible refine gate_dst (N := 2) rfl ?_); refine box_ev ?_; intro aX hg w5 hbox hb; have ac := am hbox; have ch := gwl hg; have dB := ch; replace HB := bsl hb; clear hb hbox hg) | ((with_reducible refine gate_dst (N := 13) rfl ?_); refine Kd.R_make (Kd.int .i64) _ 3 rfl (N := 13) rfl 39 _ _ rfl (l1.length : Int) rfl rfl Try.underlying39 (.int .i64 0) 8 info3 rfl (by decide) (by omega) 0 (ok := fun _ => True) (okp := fun _ => True) rfl (fun _ hk => hk) trivial (dq) (Nat.le_trans (Nat.mul_le_mul_right _ (dq : (l1.length : Int).toNat ≤ 35184372088832)) (by omega)) (Below.refl _ _) (Nat.le_refl _) ?_; intro ed w6 cF hb hg_ hnew_; clear hg_ hnew_; (first | rw [← bN.1] at cF | (simp only [Int.reduceToNat] at cF; rw [← bN.1] at cF)); have aU := am (Kd.R_lower cF (below_size pbg)); replace ac := bbh ac hb; replace HB := bst hb; clear hb cF; obtain ⟨cY, cf, d8⟩ := Kd.R_slice aU.1; subst d8) | ((with_reducible refine gate_builtin (b := .copy) (xs := #[.tmp 14, .tmp 15]) rfl ?_); refine R_copy (enc := Value.int .i64) (h1 := fun _ => rfl) (w0 := w) w.heap.size rfl (.tmp 14) (.tmp 15) 39 39 3 rfl Try.underlying39 (by kernel_rfl) (.slice cY bJ.length cf) bJ l1 (fun _ => True) A1 c1 rfl rfl (pkr aU.1) ?hC pbg (below_size pbg) ?_; (case hC => exact csb d5 HB); intro w8 nw8_ ho hb hg; rw [← cm.1] at ho; replace ac := (bgr ac hg (Kd.R_ne aU.1 ac.1 (by decide))); replace aU := am ho; replace HB := am hb; clear ho hb hg; have cU := cf5 ac.1))
 go_loopg [20] k (fun kq ec w' => ∃ (aD : List Int) (ag : Int), ec = .int .i64 ag ∧ Aside0 (karpmiller_move.l0 kq aD ai (ai.length : Int) ag aL ai ab aH aM = some (r1, r2)) ∧ Aside0 (kq ≤ k) ∧ Aside0 (Kd.R (Kd.int .i64) 3 w' w.heap.size (fun _ => True) (.slice cY bJ.length cf) aD) ∧ Aside0 (w'.heap[aX]? = some (.cells #[.string aL, (.slice bq ai.length a7), (.slice bs ab.length a8), (.slice a6 aH.length a9), .int .i64 aM] 38 (0, 0))) ∧ Aside0 (Below w.heap.size w w'))
 case atStart => exact ⟨(cN), (0), prs, H', ⟨Nat.le_refl _⟩, ⟨pkr aU.1⟩, ⟨pbk ac.1⟩, ⟨pbg⟩⟩
 clear H'
 try clear c1 c3 cy cz c4 cB cC cU
 obtain ⟨aD, ag, rfl, HA, bL, af, ac, HB⟩ := hrel
 have ar := (Kd.R_reads' af.1).1
 rw [ar] at af
 (try simp only [ar])
 (try simp only [ar] at ac)
 obtain _ | k1 := gk
 ·exact absurd HA.1 (by simp [karpmiller_move.l0])
 have H := HA.1
 clear HA
 simp only [karpmiller_move.l0] at H
 replace H := ifl H
 rcases H with ⟨bi, H⟩ | ⟨bi, H⟩
 ·(try have c11b9_0 : decide (ag < (aD.length : Int)) = true := (by rw [← ar]; exact bi))
  skip
  replace H := ifp H
  obtain ⟨dc, H⟩ := H
  have cp := decide_eq_true dc
  clear dc
  replace H := ifp H
  obtain ⟨de, H⟩ := H
  have bQ := decide_eq_true de
  (try have c13b9_0 : decide (ag < (aD.length : Int)) = true := (by rw [← ar]; exact bQ))
  clear de
  replace H := ifp H
  obtain ⟨df, H⟩ := H
  have cq := decide_eq_true df
  clear df
  replace H := ifp H
  obtain ⟨dg, H⟩ := H
  have cr := decide_eq_true dg
  clear dg
  replace H := ife H
  rcases H with ⟨bR, bS, H⟩ | ⟨bR, bS, H⟩
  ·have H' := am H
   clear H
   obtain ⟨cG, cI, bP, b3, bj, bk⟩ := bT68 bM.1 HB.1 ag
   cases b3
   go_wp2_with (first | ((with_reducible refine gate_dst (N := 8) rfl ?_); refine box_ev ?_; intro ap hg eo hbox hb; have ax := am hbox; have bw := gwb hg; have cg := bw; have aE := nlt hg ac; have aK := ngt hg ac; replace af := rbw af hb; replace ac := bbh ac hb; replace HB := bst hb; clear hb hbox hg; have dN := aK.1; have dU := aE.1; have dx := cf2 ax.1; have aY : 0 ≤ (((rd_T68 ai ag).f0) : Int) := dq; have aZ : ((rd_T68 ai ag).f0) < (aD.length : Int) := dq; obtain ⟨aQ, b4, av⟩ := Kd.at_int (Kd.R_reads' af.1).2.2 ((rd_T68 ai ag).f0) aY aZ; cases b4; have ay : aQ.block ≠ ap := Kd.own_blk (Kd.R_ne af.1 ax.1 (by decide)); have az : aQ.block ≠ ap := Kd.own_blk (Kd.R_ne af.1 ax.1 (by decide)); replace av := (cell_far (p := ⟨ap, 0, none⟩) (by first | (rw [add_block]; exact ay) | (show (Addr.add _ _).block ≠ _; rw [add_block]; exact ay) | exact ay) (.int .i64 ((rd_T68 ai ag).f0))).trans av; replace av := (cell_far (p := ⟨ap, 1, none⟩) (by first | (rw [add_block]; exact az) | (show (Addr.add _ _).block ≠ _; rw [add_block]; exact az) | exact az) (.int .i64 ((rd_T68 ai ag).f1))).trans av; clear ay; clear az; replace aY := eq_true aY; replace aZ := eq_true aZ))
   (try simp only [← ar])
   go_roundg k1
   case measure => have := bL.1; omega
   case rel => exact ⟨(aD), (wrap64 (ag + 1)), prs, H', ⟨by have := bL.1; omega⟩, ⟨by (try simp only [ar]); (with_reducible repeat (first | apply Kd.R_alloc | apply Kd.R_drewN | apply Kd.R_drew)); exact Kd.R_mono (fR2 ap (Kd.R_types af.1 ax.1 (by decide)) (fun _ hk => hk.2)) (fun _ hk => trivial)⟩, ⟨by (try simp only [ar]); (with_reducible repeat (first | refine blk_drewN ?_ _ | refine blk_drew ?_ | refine blk_alloc ?_ _)); refine bf2 ?_ aE.1; exact pbk ac.1⟩, ⟨pbg⟩⟩
  obtain ⟨cO, bG⟩ : ∃ y_ : List Int, y_ = (aD.set (((rd_T68 ai ag).f0) : Int).toNat (wrap64 ((rd aD ((rd_T68 ai ag).f0)) - ((rd_T68 ai ag).f1)))) := ⟨_, rfl⟩
  replace H : (karpmiller_move.l0 k1 cO ai (ai.length : Int) (wrap64 (ag + 1)) aL ai ab aH aM) = some (r1, r2) := hrp bG H
  have cn := am bG
  clear bG
  have H' := am H
  clear H
  obtain ⟨cG, cI, bP, b3, bj, bk⟩ := bT68 bM.1 HB.1 ag
  cases b3
  try go_wp2_with (first | ((with_reducible refine gate_dst (N := 8) rfl ?_); refine box_ev ?_; intro ap hg cK hbox hb; have ax := am hbox; have bw := gwb hg; have cg := bw; have aE := nlt hg ac; have aK := ngt hg ac; replace af := rbw af hb; replace ac := bbh ac hb; replace HB := bst hb; clear hb hbox hg; have dO := aK.1; have dV := aE.1; have dy := cf2 ax.1; have aY : 0 ≤ (((rd_T68 ai ag).f0) : Int) := dq; have aZ : ((rd_T68 ai ag).f0) < (aD.length : Int) := dq; obtain ⟨aQ, b4, av⟩ := Kd.at_int (Kd.R_reads' af.1).2.2 ((rd_T68 ai ag).f0) aY aZ; cases b4; have ay : aQ.block ≠ ap := Kd.own_blk (Kd.R_ne af.1 ax.1 (by decide)); have az : aQ.block ≠ ap := Kd.own_blk (Kd.R_ne af.1 ax.1 (by decide)); replace av := (cell_far (p := ⟨ap, 0, none⟩) (by first | (rw [add_block]; exact ay) | (show (Addr.add _ _).block ≠ _; rw [add_block]; exact ay) | exact ay) (.int .i64 ((rd_T68 ai ag).f0))).trans av; replace av := (cell_far (p := ⟨ap, 1, none⟩) (by first | (rw [add_block]; exact az) | (show (Addr.add _ _).block ≠ _; rw [add_block]; exact az) | exact az) (.int .i64 ((rd_T68 ai ag).f1))).trans av; clear ay; clear az; replace aY := eq_true aY; replace aZ := eq_true aZ))
  have n0_ : Aside0 (Kd.R (Kd.int .i64) 3 ((cK.setCell ⟨ap, 0, none⟩ (.int .i64 ((rd_T68 ai ag).f0))).setCell ⟨ap, 1, none⟩ (.int .i64 ((rd_T68 ai ag).f1))) w.heap.size (fun _ => True) (.slice (some aQ) aD.length cf) aD) := ⟨by (with_reducible repeat (first | apply Kd.R_alloc | apply Kd.R_drewN | apply Kd.R_drew)); exact Kd.R_mono (fR2 ap (Kd.R_types af.1 ax.1 (by decide)) (fun _ hk => hk.2)) (fun _ hk => trivial)⟩
  have n1_ : Aside0 (((cK.setCell ⟨ap, 0, none⟩ (.int .i64 ((rd_T68 ai ag).f0))).setCell ⟨ap, 1, none⟩ (.int .i64 ((rd_T68 ai ag).f1))).heap[aX]? = some (.cells #[.string aL, .slice (some bP) ai.length a7, .slice bs ab.length a8, .slice a6 aH.length a9, .int .i64 aM] 38 (0, 0))) := ⟨by (with_reducible repeat (first | refine blk_drewN ?_ _ | refine blk_drew ?_ | refine blk_alloc ?_ _)); refine bf2 ?_ aE.1; exact pbk ac.1⟩
  have n2_ : Aside0 (((cK.setCell ⟨ap, 0, none⟩ (.int .i64 ((rd_T68 ai ag).f0))).setCell ⟨ap, 1, none⟩ (.int .i64 ((rd_T68 ai ag).f1))).heap[ap]? = some (.cells #[.int .i64 ((rd_T68 ai ag).f0), .int .i64 ((rd_T68 ai ag).f1)] 68 (0, 0))) := ⟨by (with_reducible repeat (first | refine blk_drewN ?_ _ | refine blk_drew ?_ | refine blk_alloc ?_ _)); exact bp2 (pbk ax.1)⟩
  have n3_ : Aside0 (Below w.heap.size w ((cK.setCell ⟨ap, 0, none⟩ (.int .i64 ((rd_T68 ai ag).f0))).setCell ⟨ap, 1, none⟩ (.int .i64 ((rd_T68 ai ag).f1)))) := ⟨pbg⟩
  (try clear af)
  (try clear ac)
  (try clear ax)
  (try clear HB)
  generalize ((cK.setCell ⟨ap, 0, none⟩ (.int .i64 ((rd_T68 ai ag).f0))).setCell ⟨ap, 1, none⟩ (.int .i64 ((rd_T68 ai ag).f1))) = ef at n0_ n1_ n2_ n3_ ⊢
  have af := n0_
  have ac := n1_
  have ax := n2_
  have HB := n3_
  clear n0_ n1_ n2_ n3_
  replace af := am (Kd.R_drew af.1)
  replace ac := am (blk_drew ac.1)
  replace ax := am (blk_drew ax.1)
  replace HB := am (below_drew1 HB.1)
  obtain ⟨dp, dt, co, dj, aN⟩ := dint (Kd.R_reads' af.1).2.2 ((rd_T68 ai ag).f0)
  obtain rfl : aQ = co := (by injection dj)
  have cW : 0 ≤ (((rd_T68 ai ag).f0) : Int) := dq
  have cX : (((rd_T68 ai ag).f0) : Int) < ((aD.length : Int) : Int) := dq
  obtain ⟨dl, d7, cD, cE, dk, d6, ci⟩ := Kd.R_form af.1 (by omega)
  (first | cases cD | (injection cD with ea_ en_ ec_; (first | subst ea_ | (injection ea_ with ea_; subst ea_)); subst ec_; clear en_))
  have d4 := am cE
  have da := am ci
  clear cE dk ci
  (first | simp only [add_plain] at av | skip)
  (first | simp only [add_plain] at aN | skip)
  obtain ⟨bD, b8⟩ := Kd.R_celln 0 af.1 (((rd_T68 ai ag).f0) : Int) cW cX
  replace cW := eq_true cW
  replace cX := eq_true cX
  have b0 := Kd.R_putn af.1 (((rd_T68 ai ag).f0) : Int) (wrap64 ((rd aD ((rd_T68 ai ag).f0)) - ((rd_T68 ai ag).f1)))
  rw [← cn.1] at b0
  have cj := am b0
  clear b0
  refine start_ (n := 10) (S := fun w' => w'.cell? ⟨ap, 0, none⟩ = some (.int .i64 ((rd_T68 ai ag).f0)) ∧ w'.cell? ⟨ap, 1, none⟩ = some (.int .i64 ((rd_T68 ai ag).f1)) ∧ w'.cell? ⟨dl, (((rd_T68 ai ag).f0)).toNat, none⟩ = some (.int .i64 (rd aD ((rd_T68 ai ag).f0)))) (ds := [9]) #[false, false, false, false, false, false, false, false, false, false] (by kernel_rfl) rfl rfl ⟨(blk_cell ax.1 0).trans rfl, (blk_cell ax.1 1).trans rfl, aN⟩ (fun hHeld => ?_); refine with_tabW karpmiller_move.tab7 karpmiller_move.bits7 (fun HT_ HW_ => ?_)
  generalize ef.drew = ep at af ac ax HB da cj b8 av aN bD hHeld ⊢
  refine pu HT_.1 0 30 ?_
  refine pu HT_.1 1 31 ?_
  refine pu HT_.1 5 35 ?_
  refine tk HT_.1 HW_.1 hHeld 2 32 ?_
  refine pu HT_.1 3 33 ?_
  refine tk HT_.1 HW_.1 hHeld 4 34 ?_
  refine tk HT_.1 HW_.1 hHeld 6 36 ?_
  refine pu HT_.1 7 37 ?_
  refine pu HT_.1 8 38 ?_
  refine la HT_.1 9 none rfl fun K hK => ?_
  refine skip_ (w1 := ?_) (by rfl) rfl ?_ ?_
  rotate_left
  ·go_simp
   rfl
  refine hK.out _ _ ?_
  clear hK K
  refine done_ (done_of HT_.1 (by kernel_rfl)) ?_
  try go_wp2
  (try simp only [← ar])
  go_roundg k1
  case measure => have := bL.1; omega
  case rel => exact ⟨(cO), (wrap64 (ag + 1)), prs, H', ⟨by have := bL.1; omega⟩, ⟨by (try simp only [ar]); exact pkr cj.1⟩, ⟨by (try simp only [ar]); (with_reducible repeat (first | refine blk_drewN ?_ _ | refine blk_drew ?_ | refine blk_alloc ?_ _)); refine blk_far ?_ (by have h_ := Kd.R_ne af.1 ac.1 (by decide); intro e_; exact h_ (by rw [e_]; rfl)) _; exact pbk ac.1⟩, ⟨pbg⟩⟩
 (try have c11b9_0 : decide (ag < (aD.length : Int)) = false := (by rw [← ar]; exact bi))
 skip
 have H' := am H
 clear H
 have dz := cf5 ac.1
 go_wp2
 go_loopg [43] k1 (fun kq ee w' => ∃ (aq : List Int) (aa : Int), ee = .int .i64 aa ∧ Aside0 (karpmiller_move.l1 kq aq ab (ab.length : Int) aa = some (r1, r2)) ∧ Aside0 (kq ≤ k1) ∧ Aside0 (Kd.R (Kd.int .i64) 3 w' w.heap.size (fun _ => True) (.slice cY aD.length cf) aq) ∧ Aside0 (w'.heap[aX]? = some (.cells #[.string aL, (.slice bq ai.length a7), (.slice bs ab.length a8), (.slice a6 aH.length a9), .int .i64 aM] 38 (0, 0))) ∧ Aside0 (Below w.heap.size w w'))
 case atStart => exact ⟨(aD), (0), prs, H', ⟨Nat.le_refl _⟩, ⟨by (try simp only [ar]); exact pkr af.1⟩, ⟨by (try simp only [ar]); exact pbk ac.1⟩, ⟨pbg⟩⟩
 clear H'
 try clear c1 c3 cy cz c4 cB cC bi dc cp de bQ df cq dg cr en bR bS cW cX cU dx dy dz bj bk av aN bD cG aY dp cI aZ dt
 obtain ⟨aq, aa, rfl, HA, cV, af, ac, HB⟩ := hrel
 have aG := (Kd.R_reads' af.1).1
 rw [aG] at af
 (try simp only [aG])
 (try simp only [aG] at ac)
 obtain _ | k2 := gk
 ·exact absurd HA.1 (by simp [karpmiller_move.l1])
 have H := HA.1
 clear HA
 simp only [karpmiller_move.l1] at H
 replace H := ifl H
 rcases H with ⟨aW, H⟩ | ⟨aW, H⟩
 rotate_left
 ·(try have c28b9_0 : decide (aa < (aD.length : Int)) = false := (by rw [← ar]; exact aW))
  (try have c28b9_1 : decide (aa < (aq.length : Int)) = false := (by rw [← aG]; exact aW))
  skip
  simp only [Option.some.injEq, Prod.mk.injEq] at H
  obtain ⟨rfl, rfl⟩ := H
  go_wp2
  go_ret2
  exact ⟨_, per, by (with_reducible repeat (first | apply Kd.R_alloc | apply Kd.R_drewN | apply Kd.R_drew)); exact af.1, pbg⟩
 (try have c28b9_0 : decide (aa < (aD.length : Int)) = true := (by rw [← ar]; exact aW))
 (try have c28b9_1 : decide (aa < (aq.length : Int)) = true := (by rw [← aG]; exact aW))
 skip
 replace H := ifp H
 obtain ⟨dG, H⟩ := H
 have dH := decide_eq_true dG
 clear dG
 replace H := ifp H
 obtain ⟨dI, H⟩ := H
 have bT := decide_eq_true dI
 (try have c30b9_0 : decide (aa < (aD.length : Int)) = true := (by rw [← ar]; exact bT))
 (try have c30b9_1 : decide (aa < (aq.length : Int)) = true := (by rw [← aG]; exact bT))
 clear dI
 replace H := ifp H
 obtain ⟨dJ, H⟩ := H
 have dK := decide_eq_true dJ
 clear dJ
 replace H := ifp H
 obtain ⟨dL, H⟩ := H
 have cu := decide_eq_true dL
 (try have c32b9_0 : decide (((rd_T68 ab aa).f0) < (aD.length : Int)) = true := (by rw [← ar]; exact cu))
 clear dL
 replace H := ife H
 rcases H with ⟨cv, cw, H⟩ | ⟨cv, cw, H⟩
 ·replace H := ifg H
  rcases H with ⟨cx, H⟩ | ⟨cx, H⟩
  ·simp only [Option.some.injEq, Prod.mk.injEq] at H
   obtain ⟨rfl, rfl⟩ := H
   obtain ⟨ca, cd, aV, ba, aS, aT⟩ := bT68 bh.1 HB.1 aa
   cases ba
   go_wp2_with (first | ((with_reducible refine gate_dst (N := 10) rfl ?_); refine box_ev ?_; intro ae hg eq hbox hb; have ah := am hbox; have aP := gwb hg; have bu := aP; have ao := nlt hg ac; have aw := ngt hg ac; replace af := rbw af hb; replace ac := bbh ac hb; replace HB := bst hb; clear hb hbox hg; have dP := aw.1; have dW := ao.1; have ei := cf2 ah.1; have aI : 0 ≤ (((rd_T68 ab aa).f0) : Int) := dq; have aJ : ((rd_T68 ab aa).f0) < (aq.length : Int) := dq; obtain ⟨au, bb, aj⟩ := Kd.at_int (Kd.R_reads' af.1).2.2 ((rd_T68 ab aa).f0) aI aJ; cases bb; have ak : au.block ≠ ae := Kd.own_blk (Kd.R_ne af.1 ah.1 (by decide)); have al : au.block ≠ ae := Kd.own_blk (Kd.R_ne af.1 ah.1 (by decide)); replace aj := (cell_far (p := ⟨ae, 0, none⟩) (by first | (rw [add_block]; exact ak) | (show (Addr.add _ _).block ≠ _; rw [add_block]; exact ak) | exact ak) (.int .i64 ((rd_T68 ab aa).f0))).trans aj; replace aj := (cell_far (p := ⟨ae, 1, none⟩) (by first | (rw [add_block]; exact al) | (show (Addr.add _ _).block ≠ _; rw [add_block]; exact al) | exact al) (.int .i64 ((rd_T68 ab aa).f1))).trans aj; clear ak; clear al; replace aI := eq_true aI; replace aJ := eq_true aJ; have bf : 0 ≤ (((rd_T68 ab aa).f0) : Int) := dq; have bg : ((rd_T68 ab aa).f0) < (aq.length : Int) := dq; obtain ⟨bz, b5, aC⟩ := Kd.at_int (Kd.R_reads' af.1).2.2 ((rd_T68 ab aa).f0) bf bg; obtain rfl : au = bz := (by injection b5); have aA : au.block ≠ ae := Kd.own_blk (Kd.R_ne af.1 ah.1 (by decide)); have aB : au.block ≠ ae := Kd.own_blk (Kd.R_ne af.1 ah.1 (by decide)); replace aC := (cell_far (p := ⟨ae, 0, none⟩) (by first | (rw [add_block]; exact aA) | (show (Addr.add _ _).block ≠ _; rw [add_block]; exact aA) | exact aA) (.int .i64 ((rd_T68 ab aa).f0))).trans aC; replace aC := (cell_far (p := ⟨ae, 1, none⟩) (by first | (rw [add_block]; exact aB) | (show (Addr.add _ _).block ≠ _; rw [add_block]; exact aB) | exact aB) (.int .i64 ((rd_T68 ab aa).f1))).trans aC; clear aA; clear aB; replace bf := eq_true bf; replace bg := eq_true bg))
   go_ret2
   exact ⟨_, per, knl, pbg⟩
  have H' := am H
  clear H
  obtain ⟨ca, cd, aV, ba, aS, aT⟩ := bT68 bh.1 HB.1 aa
  cases ba
  go_wp2_with (first | ((with_reducible refine gate_dst (N := 10) rfl ?_); refine box_ev ?_; intro ae hg er hbox hb; have ah := am hbox; have aP := gwb hg; have bu := aP; have ao := nlt hg ac; have aw := ngt hg ac; replace af := rbw af hb; replace ac := bbh ac hb; replace HB := bst hb; clear hb hbox hg; have dQ := aw.1; have dX := ao.1; have ej := cf2 ah.1; have aI : 0 ≤ (((rd_T68 ab aa).f0) : Int) := dq; have aJ : ((rd_T68 ab aa).f0) < (aq.length : Int) := dq; obtain ⟨au, bb, aj⟩ := Kd.at_int (Kd.R_reads' af.1).2.2 ((rd_T68 ab aa).f0) aI aJ; cases bb; have ak : au.block ≠ ae := Kd.own_blk (Kd.R_ne af.1 ah.1 (by decide)); have al : au.block ≠ ae := Kd.own_blk (Kd.R_ne af.1 ah.1 (by decide)); replace aj := (cell_far (p := ⟨ae, 0, none⟩) (by first | (rw [add_block]; exact ak) | (show (Addr.add _ _).block ≠ _; rw [add_block]; exact ak) | exact ak) (.int .i64 ((rd_T68 ab aa).f0))).trans aj; replace aj := (cell_far (p := ⟨ae, 1, none⟩) (by first | (rw [add_block]; exact al) | (show (Addr.add _ _).block ≠ _; rw [add_block]; exact al) | exact al) (.int .i64 ((rd_T68 ab aa).f1))).trans aj; clear ak; clear al; replace aI := eq_true aI; replace aJ := eq_true aJ; have bf : 0 ≤ (((rd_T68 ab aa).f0) : Int) := dq; have bg : ((rd_T68 ab aa).f0) < (aq.length : Int) := dq; obtain ⟨bz, b5, aC⟩ := Kd.at_int (Kd.R_reads' af.1).2.2 ((rd_T68 ab aa).f0) bf bg; obtain rfl : au = bz := (by injection b5); have aA : au.block ≠ ae := Kd.own_blk (Kd.R_ne af.1 ah.1 (by decide)); have aB : au.block ≠ ae := Kd.own_blk (Kd.R_ne af.1 ah.1 (by decide)); replace aC := (cell_far (p := ⟨ae, 0, none⟩) (by first | (rw [add_block]; exact aA) | (show (Addr.add _ _).block ≠ _; rw [add_block]; exact aA) | exact aA) (.int .i64 ((rd_T68 ab aa).f0))).trans aC; replace aC := (cell_far (p := ⟨ae, 1, none⟩) (by first | (rw [add_block]; exact aB) | (show (Addr.add _ _).block ≠ _; rw [add_block]; exact aB) | exact aB) (.int .i64 ((rd_T68 ab aa).f1))).trans aC; clear aA; clear aB; replace bf := eq_true bf; replace bg := eq_true bg))
  (try simp only [← aG])
  go_roundg k2
  case measure => have := bL.1; have := cV.1; omega
  case rel => exact ⟨(aq), (wrap64 (aa + 1)), prs, H', ⟨by have := bL.1; have := cV.1; omega⟩, ⟨by (try simp only [ar]); (try simp only [aG]); (with_reducible repeat (first | apply Kd.R_alloc | apply Kd.R_drewN | apply Kd.R_drew)); exact Kd.R_mono (fR2 ae (Kd.R_types af.1 ah.1 (by decide)) (fun _ hk => hk.2)) (fun _ hk => trivial)⟩, ⟨by (try simp only [ar]); (try simp only [aG]); (with_reducible repeat (first | refine blk_drewN ?_ _ | refine blk_drew ?_ | refine blk_alloc ?_ _)); refine bf2 ?_ ao.1; exact pbk ac.1⟩, ⟨pbg⟩⟩
 obtain ⟨cP, bH⟩ : ∃ y_ : List Int, y_ = (aq.set (((rd_T68 ab aa).f0) : Int).toNat (wrap64 ((rd aq ((rd_T68 ab aa).f0)) + ((rd_T68 ab aa).f1)))) := ⟨_, rfl⟩
 replace H : (if (wrap64 ((rd aq ((rd_T68 ab aa).f0)) + ((rd_T68 ab aa).f1))) > 1048576 then (some (([] : List Int), false)) else (karpmiller_move.l1 k2 cP ab (ab.length : Int) (wrap64 (aa + 1)))) = some (r1, r2) := hrp bH H
 have bO := am bH
 clear bH
 replace H := ifg H
 rcases H with ⟨cA, H⟩ | ⟨cA, H⟩
 ·simp only [Option.some.injEq, Prod.mk.injEq] at H
  obtain ⟨rfl, rfl⟩ := H
  obtain ⟨ca, cd, aV, ba, aS, aT⟩ := bT68 bh.1 HB.1 aa
  cases ba
  try go_wp2_with (first | ((with_reducible refine gate_dst (N := 10) rfl ?_); refine box_ev ?_; intro ae hg cL hbox hb; have ah := am hbox; have aP := gwb hg; have bu := aP; have ao := nlt hg ac; have aw := ngt hg ac; replace af := rbw af hb; replace ac := bbh ac hb; replace HB := bst hb; clear hb hbox hg; have dR := aw.1; have dY := ao.1; have ek := cf2 ah.1; have aI : 0 ≤ (((rd_T68 ab aa).f0) : Int) := dq; have aJ : ((rd_T68 ab aa).f0) < (aq.length : Int) := dq; obtain ⟨au, bb, aj⟩ := Kd.at_int (Kd.R_reads' af.1).2.2 ((rd_T68 ab aa).f0) aI aJ; cases bb; have ak : au.block ≠ ae := Kd.own_blk (Kd.R_ne af.1 ah.1 (by decide)); have al : au.block ≠ ae := Kd.own_blk (Kd.R_ne af.1 ah.1 (by decide)); replace aj := (cell_far (p := ⟨ae, 0, none⟩) (by first | (rw [add_block]; exact ak) | (show (Addr.add _ _).block ≠ _; rw [add_block]; exact ak) | exact ak) (.int .i64 ((rd_T68 ab aa).f0))).trans aj; replace aj := (cell_far (p := ⟨ae, 1, none⟩) (by first | (rw [add_block]; exact al) | (show (Addr.add _ _).block ≠ _; rw [add_block]; exact al) | exact al) (.int .i64 ((rd_T68 ab aa).f1))).trans aj; clear ak; clear al; replace aI := eq_true aI; replace aJ := eq_true aJ))
  have n0_ : Aside0 (Kd.R (Kd.int .i64) 3 ((cL.setCell ⟨ae, 0, none⟩ (.int .i64 ((rd_T68 ab aa).f0))).setCell ⟨ae, 1, none⟩ (.int .i64 ((rd_T68 ab aa).f1))) w.heap.size (fun _ => True) (.slice (some au) aq.length cf) aq) := ⟨by (with_reducible repeat (first | apply Kd.R_alloc | apply Kd.R_drewN | apply Kd.R_drew)); exact Kd.R_mono (fR2 ae (Kd.R_types af.1 ah.1 (by decide)) (fun _ hk => hk.2)) (fun _ hk => trivial)⟩
  have n1_ : Aside0 (((cL.setCell ⟨ae, 0, none⟩ (.int .i64 ((rd_T68 ab aa).f0))).setCell ⟨ae, 1, none⟩ (.int .i64 ((rd_T68 ab aa).f1))).heap[aX]? = some (.cells #[.string aL, .slice bq ai.length a7, .slice (some aV) ab.length a8, .slice a6 aH.length a9, .int .i64 aM] 38 (0, 0))) := ⟨by (with_reducible repeat (first | refine blk_drewN ?_ _ | refine blk_drew ?_ | refine blk_alloc ?_ _)); refine bf2 ?_ ao.1; exact pbk ac.1⟩
  have n2_ : Aside0 (((cL.setCell ⟨ae, 0, none⟩ (.int .i64 ((rd_T68 ab aa).f0))).setCell ⟨ae, 1, none⟩ (.int .i64 ((rd_T68 ab aa).f1))).heap[ae]? = some (.cells #[.int .i64 ((rd_T68 ab aa).f0), .int .i64 ((rd_T68 ab aa).f1)] 68 (0, 0))) := ⟨by (with_reducible repeat (first | refine blk_drewN ?_ _ | refine blk_drew ?_ | refine blk_alloc ?_ _)); exact bp2 (pbk ah.1)⟩
  have n3_ : Aside0 (Below w.heap.size w ((cL.setCell ⟨ae, 0, none⟩ (.int .i64 ((rd_T68 ab aa).f0))).setCell ⟨ae, 1, none⟩ (.int .i64 ((rd_T68 ab aa).f1)))) := ⟨pbg⟩
  (try clear af)
  (try clear ac)
  (try clear ah)
  (try clear HB)
  generalize ((cL.setCell ⟨ae, 0, none⟩ (.int .i64 ((rd_T68 ab aa).f0))).setCell ⟨ae, 1, none⟩ (.int .i64 ((rd_T68 ab aa).f1))) = eg at n0_ n1_ n2_ n3_ ⊢
  have af := n0_
  have ac := n1_
  have ah := n2_
  have HB := n3_
  clear n0_ n1_ n2_ n3_
  replace af := am (Kd.R_drew af.1)
  replace ac := am (blk_drew ac.1)
  replace ah := am (blk_drew ah.1)
  replace HB := am (below_drew1 HB.1)
  obtain ⟨dr, du, bA, b6, aF⟩ := dint (Kd.R_reads' af.1).2.2 ((rd_T68 ab aa).f0)
  obtain rfl : au = bA := (by injection b6)
  have cb : 0 ≤ (((rd_T68 ab aa).f0) : Int) := dq
  have ce : (((rd_T68 ab aa).f0) : Int) < ((aq.length : Int) : Int) := dq
  obtain ⟨bc, di, bB, bC, b7, dh, bx⟩ := Kd.R_form af.1 (by omega)
  (first | cases bB | (injection bB with ea_ en_ ec_; (first | subst ea_ | (injection ea_ with ea_; subst ea_)); subst ec_; clear en_))
  have cZ := am bC
  have bv := am bx
  clear bC b7 bx
  (first | simp only [add_plain] at aj | skip)
  (first | simp only [add_plain] at aF | skip)
  obtain ⟨aR, bd⟩ := Kd.R_celln 0 af.1 (((rd_T68 ab aa).f0) : Int) cb ce
  replace cb := eq_true cb
  replace ce := eq_true ce
  have b1 := Kd.R_putn af.1 (((rd_T68 ab aa).f0) : Int) (wrap64 ((rd aq ((rd_T68 ab aa).f0)) + ((rd_T68 ab aa).f1)))
  rw [← bO.1] at b1
  have db := am b1
  clear b1
  refine start_ (n := 10) (S := fun w' => w'.cell? ⟨ae, 0, none⟩ = some (.int .i64 ((rd_T68 ab aa).f0)) ∧ w'.cell? ⟨ae, 1, none⟩ = some (.int .i64 ((rd_T68 ab aa).f1)) ∧ w'.cell? ⟨bc, (((rd_T68 ab aa).f0)).toNat, none⟩ = some (.int .i64 (rd aq ((rd_T68 ab aa).f0)))) (ds := [9]) #[false, false, false, false, false, false, false, false, false, false] (by kernel_rfl) rfl rfl ⟨(blk_cell ah.1 0).trans rfl, (blk_cell ah.1 1).trans rfl, aF⟩ (fun hHeld => ?_); refine with_tabW karpmiller_move.tab13 karpmiller_move.bits13 (fun HT_ HW_ => ?_)
  generalize eg.drew = es at af ac ah HB bv db bd aj aF aR hHeld ⊢
  refine pu HT_.1 0 53 ?_
  refine pu HT_.1 1 54 ?_
  refine pu HT_.1 5 58 ?_
  refine tk HT_.1 HW_.1 hHeld 2 55 ?_
  refine pu HT_.1 3 56 ?_
  refine tk HT_.1 HW_.1 hHeld 4 57 ?_
  refine tk HT_.1 HW_.1 hHeld 6 59 ?_
  refine pu HT_.1 7 60 ?_
  refine pu HT_.1 8 61 ?_
  refine la HT_.1 9 none rfl fun K hK => ?_
  refine skip_ (w1 := ?_) (by rfl) rfl ?_ ?_
  rotate_left
  ·go_simp
   rfl
  refine hK.out _ _ ?_
  clear hK K
  refine done_ (done_of HT_.1 (by kernel_rfl)) ?_
  obtain ⟨cQ, cR, d0, d1⟩ := cf2 ah.1
  have cH : 0 ≤ (((rd_T68 ab aa).f0) : Int) := dq
  have cJ : (((rd_T68 ab aa).f0) : Int) < ((aq.length : Int) : Int) := dq
  have b9 := World.cell?_setCell_same _ _ (.int .i64 (wrap64 ((rd aq ((rd_T68 ab aa).f0)) + ((rd_T68 ab aa).f1)))) aR
  have hnez_ := blk_apart ah.1 bv.1 (by decide)
  have hney_ := Ne.symm hnez_
  have hcy0_ := (cell_far (p := ⟨bc, (((rd_T68 ab aa).f0) : Int).toNat, none⟩) hnez_ (.int .i64 (wrap64 ((rd aq ((rd_T68 ab aa).f0)) + ((rd_T68 ab aa).f1))))).trans cQ
  have hcy1_ := (cell_far (p := ⟨bc, (((rd_T68 ab aa).f0) : Int).toNat, none⟩) hnez_ (.int .i64 (wrap64 ((rd aq ((rd_T68 ab aa).f0)) + ((rd_T68 ab aa).f1))))).trans cR
  replace cH := eq_true cH
  replace cJ := eq_true cJ
  try go_wp2
  go_ret2
  exact ⟨_, per, knl, pbg⟩
 have H' := am H
 clear H
 obtain ⟨ca, cd, aV, ba, aS, aT⟩ := bT68 bh.1 HB.1 aa
 cases ba
 try go_wp2_with (first | ((with_reducible refine gate_dst (N := 10) rfl ?_); refine box_ev ?_; intro ae hg cM hbox hb; have ah := am hbox; have aP := gwb hg; have bu := aP; have ao := nlt hg ac; have aw := ngt hg ac; replace af := rbw af hb; replace ac := bbh ac hb; replace HB := bst hb; clear hb hbox hg; have dS := aw.1; have dZ := ao.1; have el := cf2 ah.1; have aI : 0 ≤ (((rd_T68 ab aa).f0) : Int) := dq; have aJ : ((rd_T68 ab aa).f0) < (aq.length : Int) := dq; obtain ⟨au, bb, aj⟩ := Kd.at_int (Kd.R_reads' af.1).2.2 ((rd_T68 ab aa).f0) aI aJ; cases bb; have ak : au.block ≠ ae := Kd.own_blk (Kd.R_ne af.1 ah.1 (by decide)); have al : au.block ≠ ae := Kd.own_blk (Kd.R_ne af.1 ah.1 (by decide)); replace aj := (cell_far (p := ⟨ae, 0, none⟩) (by first | (rw [add_block]; exact ak) | (show (Addr.add _ _).block ≠ _; rw [add_block]; exact ak) | exact ak) (.int .i64 ((rd_T68 ab aa).f0))).trans aj; replace aj := (cell_far (p := ⟨ae, 1, none⟩) (by first | (rw [add_block]; exact al) | (show (Addr.add _ _).block ≠ _; rw [add_block]; exact al) | exact al) (.int .i64 ((rd_T68 ab aa).f1))).trans aj; clear ak; clear al; replace aI := eq_true aI; replace aJ := eq_true aJ))
 have n0_ : Aside0 (Kd.R (Kd.int .i64) 3 ((cM.setCell ⟨ae, 0, none⟩ (.int .i64 ((rd_T68 ab aa).f0))).setCell ⟨ae, 1, none⟩ (.int .i64 ((rd_T68 ab aa).f1))) w.heap.size (fun _ => True) (.slice (some au) aq.length cf) aq) := ⟨by (with_reducible repeat (first | apply Kd.R_alloc | apply Kd.R_drewN | apply Kd.R_drew)); exact Kd.R_mono (fR2 ae (Kd.R_types af.1 ah.1 (by decide)) (fun _ hk => hk.2)) (fun _ hk => trivial)⟩
 have n1_ : Aside0 (((cM.setCell ⟨ae, 0, none⟩ (.int .i64 ((rd_T68 ab aa).f0))).setCell ⟨ae, 1, none⟩ (.int .i64 ((rd_T68 ab aa).f1))).heap[aX]? = some (.cells #[.string aL, .slice bq ai.length a7, .slice (some aV) ab.length a8, .slice a6 aH.length a9, .int .i64 aM] 38 (0, 0))) := ⟨by (with_reducible repeat (first | refine blk_drewN ?_ _ | refine blk_drew ?_ | refine blk_alloc ?_ _)); refine bf2 ?_ ao.1; exact pbk ac.1⟩
 have n2_ : Aside0 (((cM.setCell ⟨ae, 0, none⟩ (.int .i64 ((rd_T68 ab aa).f0))).setCell ⟨ae, 1, none⟩ (.int .i64 ((rd_T68 ab aa).f1))).heap[ae]? = some (.cells #[.int .i64 ((rd_T68 ab aa).f0), .int .i64 ((rd_T68 ab aa).f1)] 68 (0, 0))) := ⟨by (with_reducible repeat (first | refine blk_drewN ?_ _ | refine blk_drew ?_ | refine blk_alloc ?_ _)); exact bp2 (pbk ah.1)⟩
 have n3_ : Aside0 (Below w.heap.size w ((cM.setCell ⟨ae, 0, none⟩ (.int .i64 ((rd_T68 ab aa).f0))).setCell ⟨ae, 1, none⟩ (.int .i64 ((rd_T68 ab aa).f1)))) := ⟨pbg⟩
 (try clear af)
 (try clear ac)
 (try clear ah)
 (try clear HB)
 generalize ((cM.setCell ⟨ae, 0, none⟩ (.int .i64 ((rd_T68 ab aa).f0))).setCell ⟨ae, 1, none⟩ (.int .i64 ((rd_T68 ab aa).f1))) = eh at n0_ n1_ n2_ n3_ ⊢
 have af := n0_
 have ac := n1_
 have ah := n2_
 have HB := n3_
 clear n0_ n1_ n2_ n3_
 replace af := am (Kd.R_drew af.1)
 replace ac := am (blk_drew ac.1)
 replace ah := am (blk_drew ah.1)
 replace HB := am (below_drew1 HB.1)
 obtain ⟨dr, du, bA, b6, aF⟩ := dint (Kd.R_reads' af.1).2.2 ((rd_T68 ab aa).f0)
 obtain rfl : au = bA := (by injection b6)
 have cb : 0 ≤ (((rd_T68 ab aa).f0) : Int) := dq
 have ce : (((rd_T68 ab aa).f0) : Int) < ((aq.length : Int) : Int) := dq
 obtain ⟨bc, di, bB, bC, b7, dh, bx⟩ := Kd.R_form af.1 (by omega)
 (first | cases bB | (injection bB with ea_ en_ ec_; (first | subst ea_ | (injection ea_ with ea_; subst ea_)); subst ec_; clear en_))
 have cZ := am bC
 have bv := am bx
 clear bC b7 bx
 (first | simp only [add_plain] at aj | skip)
 (first | simp only [add_plain] at aF | skip)
 obtain ⟨aR, bd⟩ := Kd.R_celln 0 af.1 (((rd_T68 ab aa).f0) : Int) cb ce
 replace cb := eq_true cb
 replace ce := eq_true ce
 have b2 := Kd.R_putn af.1 (((rd_T68 ab aa).f0) : Int) (wrap64 ((rd aq ((rd_T68 ab aa).f0)) + ((rd_T68 ab aa).f1)))
 rw [← bO.1] at b2
 have ck := am b2
 clear b2
 refine start_ (n := 10) (S := fun w' => w'.cell? ⟨ae, 0, none⟩ = some (.int .i64 ((rd_T68 ab aa).f0)) ∧ w'.cell? ⟨ae, 1, none⟩ = some (.int .i64 ((rd_T68 ab aa).f1)) ∧ w'.cell? ⟨bc, (((rd_T68 ab aa).f0)).toNat, none⟩ = some (.int .i64 (rd aq ((rd_T68 ab aa).f0)))) (ds := [9]) #[false, false, false, false, false, false, false, false, false, false] (by kernel_rfl) rfl rfl ⟨(blk_cell ah.1 0).trans rfl, (blk_cell ah.1 1).trans rfl, aF⟩ (fun hHeld => ?_); refine with_tabW karpmiller_move.tab13 karpmiller_move.bits13 (fun HT_ HW_ => ?_)
 generalize eh.drew = et at af ac ah HB bv ck bd aj aF aR hHeld ⊢
 refine pu HT_.1 0 53 ?_
 refine pu HT_.1 1 54 ?_
 refine pu HT_.1 5 58 ?_
 refine tk HT_.1 HW_.1 hHeld 2 55 ?_
 refine pu HT_.1 3 56 ?_
 refine tk HT_.1 HW_.1 hHeld 4 57 ?_
 refine tk HT_.1 HW_.1 hHeld 6 59 ?_
 refine pu HT_.1 7 60 ?_
 refine pu HT_.1 8 61 ?_
 refine la HT_.1 9 none rfl fun K hK => ?_
 refine skip_ (w1 := ?_) (by rfl) rfl ?_ ?_
 rotate_left
 ·go_simp
  rfl
 refine hK.out _ _ ?_
 clear hK K
 refine done_ (done_of HT_.1 (by kernel_rfl)) ?_
 obtain ⟨cS, cT, d2, d3⟩ := cf2 ah.1
 have cH : 0 ≤ (((rd_T68 ab aa).f0) : Int) := dq
 have cJ : (((rd_T68 ab aa).f0) : Int) < ((aq.length : Int) : Int) := dq
 have b9 := World.cell?_setCell_same _ _ (.int .i64 (wrap64 ((rd aq ((rd_T68 ab aa).f0)) + ((rd_T68 ab aa).f1)))) aR
 have hnez_ := blk_apart ah.1 bv.1 (by decide)
 have hney_ := Ne.symm hnez_
 have hcy0_ := (cell_far (p := ⟨bc, (((rd_T68 ab aa).f0) : Int).toNat, none⟩) hnez_ (.int .i64 (wrap64 ((rd aq ((rd_T68 ab aa).f0)) + ((rd_T68 ab aa).f1))))).trans cS
 have hcy1_ := (cell_far (p := ⟨bc, (((rd_T68 ab aa).f0) : Int).toNat, none⟩) hnez_ (.int .i64 (wrap64 ((rd aq ((rd_T68 ab aa).f0)) + ((rd_T68 ab aa).f1))))).trans cT
 replace cH := eq_true cH
 replace cJ := eq_true cJ
 try go_wp2
 (try simp only [← aG])
 go_roundg k2
 case measure => have := bL.1; have := cV.1; omega
 case rel => exact ⟨(cP), (wrap64 (aa + 1)), prs, H', ⟨by have := bL.1; have := cV.1; omega⟩, ⟨by (try simp only [ar]); (try simp only [aG]); exact pkr ck.1⟩, ⟨by (try simp only [ar]); (try simp only [aG]); (with_reducible repeat (first | refine blk_drewN ?_ _ | refine blk_drew ?_ | refine blk_alloc ?_ _)); refine blk_far ?_ (by have h_ := Kd.R_ne af.1 ac.1 (by decide); intro e_; exact h_ (by rw [e_]; rfl)) _; exact pbk ac.1⟩, ⟨pbg⟩⟩

/-! ### karpmiller_Fire: function 65 -/
def karpmiller_Fire.f (k : Nat) (aB : ByteArray) (au : List (S64)) (ab : List (S38)) (l1 : List Int) (a2 : Int) : Option (List Int × Bool) := (karpmiller_fits.f k aB au ab l1).bind fun bn => (if bn = true then (if a2 < 0 then (some (([] : List Int), false)) else (if a2 ≥ (ab.length : Int) then (some (([] : List Int), false)) else (if 0 ≤ a2 then (if a2 < (ab.length : Int) then ((karpmiller_enabled.f k ((rd_T38 ab a2).f0) ((rd_T38 ab a2).f1) ((rd_T38 ab a2).f2) ((rd_T38 ab a2).f3) ((rd_T38 ab a2).f4) l1).bind fun bo => (if bo = true then ((karpmiller_move.f k ((rd_T38 ab a2).f0) ((rd_T38 ab a2).f1) ((rd_T38 ab a2).f2) ((rd_T38 ab a2).f3) ((rd_T38 ab a2).f4) l1).bind fun a8 => (some (a8.1, a8.2))) else (some (([] : List Int), false)))) else (none)) else (none)))) else (some (([] : List Int), false)))
theorem karpmiller_Fire.mono : ∀ a0 a1 a2 a3 a4 k, LeO (karpmiller_Fire.f k a0 a1 a2 a3 a4) (karpmiller_Fire.f (k + 1) a0 a1 a2 a3 a4) := by
 intro a0 a1 a2 a3 a4 k
 unfold karpmiller_Fire.f
 repeat' first | (with_reducible first | apply karpmiller_enabled.mono | apply karpmiller_fits.mono | apply karpmiller_move.mono | apply lr | apply ln | apply li | refine lb ?_ fun _ => ?_)
set_option maxHeartbeats 8000000 in
set_option maxRecDepth 100000 in
theorem karpmiller_Fire.calls (k : Nat) (aB : ByteArray) (bp : Option Addr) (bu : Nat) (au : List (S64)) (bq : Option Addr) (bv : Nat) (ab : List (S38)) (A1 : Option Addr) (c1 : Nat) (l1 : List Int) (a2 : Int) (r1 : List Int) (r2 : Bool) (w : World) (bb : Kd.C k64 w bp au.length au) (a9 : au.length ≤ bu) (bc : Kd.C k38 w bq ab.length ab) (ba : ab.length ≤ bv) (hr1 : Kd.C (Kd.int .i64) w A1 l1.length l1) (bN : l1.length ≤ c1) (h : karpmiller_Fire.f k aB au ab l1 a2 = some (r1, r2)) :
  Calls Try.prog 65 #[.agg #[.string aB, .slice bp au.length bu, .slice bq ab.length bv], .slice A1 l1.length c1, .int .i64 a2] w fun e w' => ∃ v0_ : Value, e = .returned (.tuple #[v0_, .bool r2]) ∧ Kd.R (Kd.int .i64) 3 w' w.heap.size (fun _ => True) v0_ r1 ∧ Below w.heap.size w w' := by
 have bQ := Try.underlying25
 have bR := Try.underlying38
 have aE := am bb
 have aC := am a9
 clear bb a9
 have ar := am bc
 have aD := am ba
 clear bc ba
 have a6 := am hr1
 have a5 := am bN
 clear hr1 bN
 have HB := am (Below.refl w.heap.size w)
 have H := h
 unfold karpmiller_Fire.f at H
 clear h
 replace H := bnd H
 obtain ⟨bn, A4, H⟩ := H
 (try dsimp only at H)
 cases bn
 ·rw [if_neg Bool.false_ne_true] at H
  simp only [Option.some.injEq, Prod.mk.injEq] at H
  obtain ⟨rfl, rfl⟩ := H
  go_enter Try.func65, Try.ntmps65
  go_wp2_with (first | ((with_reducible refine gate_dst (N := 3) rfl ?_); (try (refine gate_guard (by rfl) ?_; dsimp only)); refine box_ev ?_; intro aI hg ca hbox hb; have aa := am hbox; have ac := gwl hg; have aH := ac; replace HB := bsl hb; clear hb hbox hg; have b0 := cf3 aa.1) | ((with_reducible refine gate_callee (f := 82) rfl ?_); refine gC 10 Try.func82 _ (karpmiller_fits.calls k aB _ _ au _ _ ab _ _ l1 false _ (csb aE HB) aC.1 (csb ar HB) aD.1 (csb a6 HB) a5.1 A4.1) ?_; rintro e cb ⟨rfl, hb⟩; refine ⟨_, rfl, ?_⟩; replace aa := bbh aa hb; replace HB := bst hb; (try clear hb)))
  go_ret2
  exact ⟨_, per, knl, pbg⟩
 rw [if_pos rfl] at H
 replace H := ifl H
 rcases H with ⟨bE, H⟩ | ⟨bE, H⟩
 ·simp only [Option.some.injEq, Prod.mk.injEq] at H
  obtain ⟨rfl, rfl⟩ := H
  go_enter Try.func65, Try.ntmps65
  go_wp2_with (first | ((with_reducible refine gate_dst (N := 3) rfl ?_); (try (refine gate_guard (by rfl) ?_; dsimp only)); refine box_ev ?_; intro aI hg w7 hbox hb; have aa := am hbox; have ac := gwl hg; have aH := ac; replace HB := bsl hb; clear hb hbox hg; have cd := cf3 aa.1) | ((with_reducible refine gate_callee (f := 82) rfl ?_); refine gC 10 Try.func82 _ (karpmiller_fits.calls k aB _ _ au _ _ ab _ _ l1 true _ (csb aE HB) aC.1 (csb ar HB) aD.1 (csb a6 HB) a5.1 A4.1) ?_; rintro e w9 ⟨rfl, hb⟩; refine ⟨_, rfl, ?_⟩; replace aa := bbh aa hb; replace HB := bst hb; (try clear hb)))
  go_ret2
  exact ⟨_, per, knl, pbg⟩
 replace H := ifh H
 rcases H with ⟨bw, H⟩ | ⟨bw, H⟩
 ·simp only [Option.some.injEq, Prod.mk.injEq] at H
  obtain ⟨rfl, rfl⟩ := H
  go_enter Try.func65, Try.ntmps65
  go_wp2_with (first | ((with_reducible refine gate_dst (N := 3) rfl ?_); (try (refine gate_guard (by rfl) ?_; dsimp only)); refine box_ev ?_; intro aI hg b1 hbox hb; have aa := am hbox; have ac := gwl hg; have aH := ac; replace HB := bsl hb; clear hb hbox hg; have bT := cf3 aa.1) | ((with_reducible refine gate_callee (f := 82) rfl ?_); refine gC 10 Try.func82 _ (karpmiller_fits.calls k aB _ _ au _ _ ab _ _ l1 true _ (csb aE HB) aC.1 (csb ar HB) aD.1 (csb a6 HB) a5.1 A4.1) ?_; rintro e b2 ⟨rfl, hb⟩; refine ⟨_, rfl, ?_⟩; replace aa := bbh aa hb; replace HB := bst hb; (try clear hb); have bU := cf3 aa.1))
  go_ret2
  exact ⟨_, per, knl, pbg⟩
 replace H := ifp H
 obtain ⟨bJ, H⟩ := H
 have bK := decide_eq_true bJ
 clear bJ
 replace H := ifp H
 obtain ⟨bL, H⟩ := H
 have bM := decide_eq_true bL
 clear bL
 replace H := bnd H
 obtain ⟨bo, bI, H⟩ := H
 (try dsimp only at H)
 cases bo
 ·rw [if_neg Bool.false_ne_true] at H
  simp only [Option.some.injEq, Prod.mk.injEq] at H
  obtain ⟨rfl, rfl⟩ := H
  go_enter Try.func65, Try.ntmps65
  go_wp2_with (first | ((with_reducible refine gate_dst (N := 3) rfl ?_); (try (refine gate_guard (by rfl) ?_; dsimp only)); refine box_ev ?_; intro aI hg b7 hbox hb; have aa := am hbox; have ac := gwl hg; have aH := ac; replace HB := bsl hb; clear hb hbox hg; have bY := cf3 aa.1) | ((with_reducible refine gate_callee (f := 82) rfl ?_); refine gC 10 Try.func82 _ (karpmiller_fits.calls k aB _ _ au _ _ ab _ _ l1 true _ (csb aE HB) aC.1 (csb ar HB) aD.1 (csb a6 HB) a5.1 A4.1) ?_; rintro e b8 ⟨rfl, hb⟩; refine ⟨_, rfl, ?_⟩; replace aa := bbh aa hb; replace HB := bst hb; (try clear hb); have bZ := cf3 aa.1; have aF : 0 ≤ (a2 : Int) := dq; have aG : a2 < (ab.length : Int) := dq; obtain ⟨a7, bd, bh, bf, bi, bg, bj, bk, ak, al, ao, ap, aq, ah, ae, ai, af, aj, ag⟩ := at_T38 ar.1 a2 aF aG; cases bk; replace ak := cbl HB.1 ak; replace al := cbl HB.1 al; replace ao := cbl HB.1 ao; replace ap := cbl HB.1 ap; replace aq := cbl HB.1 aq; have ay := am ae; have av := am ah; clear ae ah; have az := am af; have aw := am ai; clear af ai; have aA := am ag; have ax := am aj; clear ag aj; replace aF := eq_true aF; replace aG := eq_true aG) | (go_at_call 83; (with_reducible refine (karpmiller_enabled.calls k ((rd_T38 ab a2).f0) _ _ ((rd_T38 ab a2).f1) _ _ ((rd_T38 ab a2).f2) _ _ ((rd_T38 ab a2).f3) ((rd_T38 ab a2).f4) _ _ l1 false _ ?side1 ?side2 ?side3 ?side4 ?side5 ?side6 ?side7 ?side8 bI.1).mono ?_); (case side1 => exact csb ay HB); (case side2 => exact av.1); (case side3 => exact csb az HB); (case side4 => exact aw.1); (case side5 => exact csb aA HB); (case side6 => exact ax.1); (case side7 => exact csb a6 HB); (case side8 => exact a5.1); rintro e b9 ⟨rfl, hb⟩; replace aa := bbh aa hb; replace HB := bst hb; (try clear hb)))
  go_ret2
  exact ⟨_, per, knl, pbg⟩
 rw [if_pos rfl] at H
 replace H := bnd H
 obtain ⟨⟨bG, bH⟩, bP, H⟩ := H
 (try dsimp only at H)
 simp only [Option.some.injEq, Prod.mk.injEq] at H
 obtain ⟨rfl, rfl⟩ := H
 go_enter Try.func65, Try.ntmps65
 go_wp2_with (first | ((with_reducible refine gate_dst (N := 3) rfl ?_); (try (refine gate_guard (by rfl) ?_; dsimp only)); refine box_ev ?_; intro aI hg b3 hbox hb; have aa := am hbox; have ac := gwl hg; have aH := ac; replace HB := bsl hb; clear hb hbox hg; have bV := cf3 aa.1) | ((with_reducible refine gate_callee (f := 82) rfl ?_); refine gC 10 Try.func82 _ (karpmiller_fits.calls k aB _ _ au _ _ ab _ _ l1 true _ (csb aE HB) aC.1 (csb ar HB) aD.1 (csb a6 HB) a5.1 A4.1) ?_; rintro e b4 ⟨rfl, hb⟩; refine ⟨_, rfl, ?_⟩; replace aa := bbh aa hb; replace HB := bst hb; (try clear hb); have bW := cf3 aa.1; have aF : 0 ≤ (a2 : Int) := dq; have aG : a2 < (ab.length : Int) := dq; obtain ⟨a7, bd, bh, bf, bi, bg, bj, bk, ak, al, ao, ap, aq, ah, ae, ai, af, aj, ag⟩ := at_T38 ar.1 a2 aF aG; cases bk; replace ak := cbl HB.1 ak; replace al := cbl HB.1 al; replace ao := cbl HB.1 ao; replace ap := cbl HB.1 ap; replace aq := cbl HB.1 aq; have ay := am ae; have av := am ah; clear ae ah; have az := am af; have aw := am ai; clear af ai; have aA := am ag; have ax := am aj; clear ag aj; replace aF := eq_true aF; replace aG := eq_true aG) | (go_at_call 83; (with_reducible refine (karpmiller_enabled.calls k ((rd_T38 ab a2).f0) _ _ ((rd_T38 ab a2).f1) _ _ ((rd_T38 ab a2).f2) _ _ ((rd_T38 ab a2).f3) ((rd_T38 ab a2).f4) _ _ l1 true _ ?side1 ?side2 ?side3 ?side4 ?side5 ?side6 ?side7 ?side8 bI.1).mono ?_); (case side1 => exact csb ay HB); (case side2 => exact av.1); (case side3 => exact csb az HB); (case side4 => exact aw.1); (case side5 => exact csb aA HB); (case side6 => exact ax.1); (case side7 => exact csb a6 HB); (case side8 => exact a5.1); rintro e b5 ⟨rfl, hb⟩; replace aa := bbh aa hb; replace HB := bst hb; (try clear hb); have bX := cf3 aa.1; have bl : 0 ≤ (a2 : Int) := dq; have bm : a2 < (ab.length : Int) := dq; obtain ⟨bs, bx, bB, bz, bC, bA, bD, bF, aP, aQ, aR, aS, aT, aM, aJ, aN, aK, aO, aL⟩ := at_T38 ar.1 a2 bl bm; obtain rfl : a7 = bs := (by injection bF); replace aP := cbl HB.1 aP; replace aQ := cbl HB.1 aQ; replace aR := cbl HB.1 aR; replace aS := cbl HB.1 aS; replace aT := cbl HB.1 aT; have aX := am aJ; have aU := am aM; clear aJ aM; have aY := am aK; have aV := am aN; clear aK aN; have aZ := am aL; have aW := am aO; clear aL aO; replace bl := eq_true bl; replace bm := eq_true bm) | ((with_reducible refine gate_callee (f := 97) rfl ?_); refine gC 39 Try.func97 _ (karpmiller_move.calls k ((rd_T38 ab a2).f0) _ _ ((rd_T38 ab a2).f1) _ _ ((rd_T38 ab a2).f2) _ _ ((rd_T38 ab a2).f3) ((rd_T38 ab a2).f4) _ _ l1 bG bH _ (csb aX HB) aU.1 (csb aY HB) aV.1 (csb aZ HB) aW.1 (csb a6 HB) a5.1 bP.1) ?_; rintro e b6 ⟨bS, rfl, bO, hb⟩; refine ⟨_, rfl, ?_⟩; have br := am (Kd.R_lower bO (below_size pbg)); replace aa := bbh aa hb; replace HB := bst hb; (try clear hb); (try clear bO)))
 go_ret2
 exact ⟨_, per, by (with_reducible repeat (first | apply Kd.R_alloc | apply Kd.R_drewN | apply Kd.R_drew)); exact br.1, pbg⟩

/-! ### omega_Accelerate: function 67 -/
-- IMPORTS Derived.Test.YtaoogghpadifiaaCopy
def omega_Accelerate.l0 : Nat → List Int → List Int → List Int → Int → Int → Option (List Int)
 | 0, _, _, _, _, _ => none
 | k + 1, x0, x5, a6, bo, aE => if aE < bo then (if 0 ≤ aE then (if aE < (a6.length : Int) then ((omega_rank.f (rd a6 aE)).bind fun aq => (if aE < (x0.length : Int) then ((omega_rank.f (rd x0 aE)).bind fun ar => (if aq > ar then (if aE < (x5.length : Int) then (omega_Accelerate.l0 k x0 (x5.set (aE : Int).toNat (-1)) a6 bo (wrap64 (aE + 1))) else (none)) else (omega_Accelerate.l0 k x0 x5 a6 bo (wrap64 (aE + 1))))) else (none))) else (none)) else (none)) else (some x5)
def omega_Accelerate.f (k : Nat) (l0 : List Int) (l1 : List Int) : Option (List Int) := if 0 ≤ (l1.length : Int) then (if ((l1.length : Int) : Int).toNat ≤ 35184372088832 then ((some (cpy (List.replicate ((l1.length : Int) : Int).toNat 0) l1 : List Int)).bind fun aj => ((omega_Leq.f k l0 l1).bind fun al => (if al = true then (omega_Accelerate.l0 k l0 aj l1 (l1.length : Int) 0) else (some aj)))) else (none)) else (none)
theorem omega_Accelerate.mono_l : ∀ k, M5 omega_Accelerate.l0 k
 | 0 => fun _ _ _ _ _ r h => by simp [omega_Accelerate.l0] at h
 | k + 1 => by
  have bj := omega_Accelerate.mono_l k
  ·intro y0 y1 y2 y3 y4
   unfold omega_Accelerate.l0
   repeat' first | (with_reducible first | apply bj | apply omega_Leq.mono | apply lr | apply ln | apply li | refine lb ?_ fun _ => ?_)
theorem omega_Accelerate.mono : ∀ a0 a1 k, LeO (omega_Accelerate.f k a0 a1) (omega_Accelerate.f (k + 1) a0 a1) := by
 intro a0 a1 k
 have bj := omega_Accelerate.mono_l k
 unfold omega_Accelerate.f
 repeat' first | (with_reducible first | apply bj | apply omega_Leq.mono | apply lr | apply ln | apply li | refine lb ?_ fun _ => ?_)
set_option maxHeartbeats 8000000 in
set_option maxRecDepth 100000 in
theorem omega_Accelerate.calls (k : Nat) (A0 : Option Addr) (c0 : Nat) (l0 : List Int) (A1 : Option Addr) (c1 : Nat) (l1 : List Int) (r : List Int) (w : World) (bx : Kd.C (Kd.int .i64) w A0 l0.length l0) (hc0 : l0.length ≤ c0) (hr1 : Kd.C (Kd.int .i64) w A1 l1.length l1) (bw : l1.length ≤ c1) (h : omega_Accelerate.f k l0 l1 = some r) :
  Calls Try.prog 67 #[.slice A0 l0.length c0, .slice A1 l1.length c1] w fun e w' => ∃ v0_ : Value, e = .returned (v0_) ∧ Kd.R (Kd.int .i64) 3 w' w.heap.size (fun _ => True) v0_ r ∧ Below w.heap.size w w' := by
 have aH := am bx
 have a3 := am hc0
 clear bx hc0
 have aI := am hr1
 have a4 := am bw
 clear hr1 bw
 have HB := am (Below.refl w.heap.size w)
 have H := h
 unfold omega_Accelerate.f at H
 clear h
 replace H := ifp H
 obtain ⟨c3, H⟩ := H
 have a9 := eq_true c3
 have ba : decide (0 ≤ (l1.length : Int)) = true := decide_eq_true c3
 clear c3
 replace H := ifp H
 obtain ⟨c4, H⟩ := H
 have bb := eq_true c4
 have bc : decide (((l1.length : Int) : Int).toNat ≤ 35184372088832) = true := decide_eq_true c4
 clear c4
 obtain ⟨ao, aB⟩ : ∃ y_ : List Int, y_ = (List.replicate ((l1.length : Int) : Int).toNat 0) := ⟨_, rfl⟩
 replace H : ((some (cpy ao l1 : List Int)).bind fun aj => ((omega_Leq.f k l0 l1).bind fun al => (if al = true then (omega_Accelerate.l0 k l0 aj l1 (l1.length : Int) 0) else (some aj)))) = some r := hrp aB H
 have ap := am aB
 clear aB
 obtain ⟨aj, aC⟩ : ∃ y_ : List Int, y_ = (cpy ao l1) := ⟨_, rfl⟩
 replace H : ((omega_Leq.f k l0 l1).bind fun al => (if al = true then (omega_Accelerate.l0 k l0 aj l1 (l1.length : Int) 0) else (some aj))) = some r := hrp aC H
 have aJ := am aC
 clear aC
 replace H := bnd H
 obtain ⟨al, A5, H⟩ := H
 (try dsimp only at H)
 cases al
 ·rw [if_neg Bool.false_ne_true] at H
  obtain rfl := Option.some.inj H
  go_enter Try.func67, Try.ntmps67
  iterate 4 (try go_wp2_with (first | ((with_reducible refine gate_dst (N := 10) rfl ?_); refine Kd.R_make (Kd.int .i64) _ 3 rfl (N := 10) rfl 39 _ _ rfl (l1.length : Int) rfl rfl Try.underlying39 (.int .i64 0) 8 info3 rfl (by decide) (by omega) 0 (ok := fun _ => True) (okp := fun _ => True) rfl (fun _ hk => hk) trivial (dq) (Nat.le_trans (Nat.mul_le_mul_right _ (dq : (l1.length : Int).toNat ≤ 35184372088832)) (by omega)) (Below.refl _ _) (Nat.le_refl _) ?_; intro bm bC aA hb hg_ hnew_; clear hg_ hnew_; (first | rw [← ap.1] at aA | (simp only [Int.reduceToNat] at aA; rw [← ap.1] at aA)); have ac := am (Kd.R_lower aA (below_size pbl)); replace HB := bsl hb; clear hb aA; obtain ⟨a7, bg, bi⟩ := Kd.R_slice ac.1; subst bi) | ((with_reducible refine gate_builtin (b := .copy) (xs := #[.tmp 11, .tmp 12]) rfl ?_); refine R_copy (enc := Value.int .i64) (h1 := fun _ => rfl) (w0 := w) w.heap.size rfl (.tmp 11) (.tmp 12) 39 39 3 rfl Try.underlying39 (by kernel_rfl) (.slice a7 ao.length bg) ao l1 (fun _ => True) A1 c1 rfl rfl (pkr ac.1) ?hC pbl (below_size pbl) ?_; (case hC => exact csb aI HB); intro bD nw25_ ho hb hg; rw [← aJ.1] at ho; replace ac := am ho; replace HB := am hb; clear ho hb hg) | (go_at_call 80; (with_reducible refine (omega_Leq.calls k _ _ l0 _ _ l1 false _ ?side1 ?side2 ?side3 ?side4 A5.1).mono ?_); (case side1 => exact csb aH HB); (case side2 => exact a3.1); (case side3 => exact csb aI HB); (case side4 => exact a4.1); rintro e bB ⟨rfl, hb⟩; replace ac := rbw ac hb; replace HB := bsl hb; (try clear hb))); try go_quiet (first | (go_at_call 80; (with_reducible refine (omega_Leq.calls k _ _ l0 _ _ l1 false _ ?side1 ?side2 ?side3 ?side4 A5.1).mono ?_); (case side1 => exact csb aH HB); (case side2 => exact a3.1); (case side3 => exact csb aI HB); (case side4 => exact a4.1); rintro e bB ⟨rfl, hb⟩; replace ac := rbw ac hb; replace HB := bsl hb; (try clear hb))))
  go_ret
  exact ⟨_, per, by (with_reducible repeat (first | apply Kd.R_alloc | apply Kd.R_drewN | apply Kd.R_drew)); exact ac.1, pbg⟩
 rw [if_pos rfl] at H
 have H' := am H
 clear H
 go_enter Try.func67, Try.ntmps67
 iterate 4 (try go_wp2_with (first | ((with_reducible refine gate_dst (N := 10) rfl ?_); refine Kd.R_make (Kd.int .i64) _ 3 rfl (N := 10) rfl 39 _ _ rfl (l1.length : Int) rfl rfl Try.underlying39 (.int .i64 0) 8 info3 rfl (by decide) (by omega) 0 (ok := fun _ => True) (okp := fun _ => True) rfl (fun _ hk => hk) trivial (dq) (Nat.le_trans (Nat.mul_le_mul_right _ (dq : (l1.length : Int).toNat ≤ 35184372088832)) (by omega)) (Below.refl _ _) (Nat.le_refl _) ?_; intro bm w7 aZ hb hg_ hnew_; clear hg_ hnew_; (first | rw [← ap.1] at aZ | (simp only [Int.reduceToNat] at aZ; rw [← ap.1] at aZ)); have ac := am (Kd.R_lower aZ (below_size pbl)); replace HB := bsl hb; clear hb aZ; obtain ⟨aS, aK, bh⟩ := Kd.R_slice ac.1; subst bh) | ((with_reducible refine gate_builtin (b := .copy) (xs := #[.tmp 11, .tmp 12]) rfl ?_); refine R_copy (enc := Value.int .i64) (h1 := fun _ => rfl) (w0 := w) w.heap.size rfl (.tmp 11) (.tmp 12) 39 39 3 rfl Try.underlying39 (by kernel_rfl) (.slice aS ao.length aK) ao l1 (fun _ => True) A1 c1 rfl rfl (pkr ac.1) ?hC pbl (below_size pbl) ?_; (case hC => exact csb aI HB); intro w9 nw9_ ho hb hg; rw [← aJ.1] at ho; replace ac := am ho; replace HB := am hb; clear ho hb hg) | (go_at_call 80; (with_reducible refine (omega_Leq.calls k _ _ l0 _ _ l1 true _ ?side1 ?side2 ?side3 ?side4 A5.1).mono ?_); (case side1 => exact csb aH HB); (case side2 => exact a3.1); (case side3 => exact csb aI HB); (case side4 => exact a4.1); rintro e bA ⟨rfl, hb⟩; replace ac := rbw ac hb; replace HB := bsl hb; (try clear hb))); try go_quiet (first | (go_at_call 80; (with_reducible refine (omega_Leq.calls k _ _ l0 _ _ l1 true _ ?side1 ?side2 ?side3 ?side4 A5.1).mono ?_); (case side1 => exact csb aH HB); (case side2 => exact a3.1); (case side3 => exact csb aI HB); (case side4 => exact a4.1); rintro e bA ⟨rfl, hb⟩; replace ac := rbw ac hb; replace HB := bsl hb; (try clear hb))))
 go_loopg [21] k (fun kq bz w' => ∃ (ai : List Int) (aa : Int), bz = .int .i64 aa ∧ Aside0 (omega_Accelerate.l0 kq l0 ai l1 (l1.length : Int) aa = some r) ∧ Aside0 (kq ≤ k) ∧ Aside0 (Kd.R (Kd.int .i64) 3 w' w.heap.size (fun _ => True) (.slice aS ao.length aK) ai) ∧ Aside0 (Below w.heap.size w w'))
 case atStart => exact ⟨(aj), (0), prs, H', ⟨Nat.le_refl _⟩, ⟨pkr ac.1⟩, ⟨pbg⟩⟩
 clear H'
 try clear c1 c3 a9 ba c4 bb bc
 obtain ⟨ai, aa, rfl, HA, a5, ae, HB⟩ := hrel
 have af := (Kd.R_reads' ae.1).1
 rw [af] at ae
 (try simp only [af])
 obtain _ | k1 := gk
 ·exact absurd HA.1 (by simp [omega_Accelerate.l0])
 have H := HA.1
 clear HA
 simp only [omega_Accelerate.l0] at H
 replace H := ifl H
 rcases H with ⟨ax, H⟩ | ⟨ax, H⟩
 rotate_left
 ·(try have c12b9_0 : decide (aa < (ai.length : Int)) = false := (by rw [← af]; exact ax))
  skip
  obtain rfl := Option.some.inj H
  go_wp2
  repeat (go_quiet (fail); try go_wp2)
  go_ret
  exact ⟨_, per, by (with_reducible repeat (first | apply Kd.R_alloc | apply Kd.R_drewN | apply Kd.R_drew)); exact ae.1, pbg⟩
 (try have c12b9_0 : decide (aa < (ai.length : Int)) = true := (by rw [← af]; exact ax))
 skip
 replace H := ifp H
 obtain ⟨bp, H⟩ := H
 have bq := decide_eq_true bp
 clear bp
 replace H := ifp H
 obtain ⟨br, H⟩ := H
 have aW := decide_eq_true br
 (try have c14b9_0 : decide (aa < (ai.length : Int)) = true := (by rw [← af]; exact aW))
 clear br
 replace H := bnd H
 obtain ⟨aq, A15, H⟩ := H
 (try dsimp only at H)
 replace H := ifp H
 obtain ⟨bs, H⟩ := H
 have aX := decide_eq_true bs
 (try have c16b9_0 : decide (aa < (ai.length : Int)) = true := (by rw [← af]; exact aX))
 clear bs
 replace H := bnd H
 obtain ⟨ar, a2, H⟩ := H
 (try dsimp only at H)
 replace H := ifg H
 rcases H with ⟨aY, H⟩ | ⟨aY, H⟩
 rotate_left
 ·have H' := am H
  clear H
  obtain ⟨bk, bl, aV, aL, aG⟩ := bint aI.1 HB.1 aa
  cases aL
  iterate 4 (try go_wp2_with (first | (go_at_call 99; (with_reducible refine (omega_rank.calls (rd l1 aa) aq _ A15.1).mono ?_); rintro e w' ⟨rfl, ⟨nd, rfl⟩⟩; (try first | exact ⟨rfl, _, World.drewN_drewN _ _ _⟩ | exact ⟨rfl, _, Eq.trans (World.drewN_drewN _ _ _) (congrArg (World.drewN _) (Nat.add_assoc _ _ _))⟩); have ag : 0 ≤ (aa : Int) := dq; have ah : aa < (l0.length : Int) := dq; obtain ⟨aw, ak, ab⟩ := Kd.at_int aH.1 aa ag ah; cases ak; replace ab := cbl HB.1 ab; replace ag := eq_true ag; replace ah := eq_true ah) | (go_at_call 99; (with_reducible refine (omega_rank.calls (rd l0 aa) ar _ a2.1).mono ?_); rintro e w' ⟨rfl, ⟨nd, rfl⟩⟩; (try first | exact ⟨rfl, _, World.drewN_drewN _ _ _⟩ | exact ⟨rfl, _, Eq.trans (World.drewN_drewN _ _ _) (congrArg (World.drewN _) (Nat.add_assoc _ _ _))⟩))); try go_quiet (first | (go_at_call 99; (with_reducible refine (omega_rank.calls (rd l1 aa) aq _ A15.1).mono ?_); rintro e w' ⟨rfl, ⟨nd, rfl⟩⟩; (try first | exact ⟨rfl, _, World.drewN_drewN _ _ _⟩ | exact ⟨rfl, _, Eq.trans (World.drewN_drewN _ _ _) (congrArg (World.drewN _) (Nat.add_assoc _ _ _))⟩); have ag : 0 ≤ (aa : Int) := dq; have ah : aa < (l0.length : Int) := dq; obtain ⟨aw, ak, ab⟩ := Kd.at_int aH.1 aa ag ah; cases ak; replace ab := cbl HB.1 ab; replace ag := eq_true ag; replace ah := eq_true ah) | (go_at_call 99; (with_reducible refine (omega_rank.calls (rd l0 aa) ar _ a2.1).mono ?_); rintro e w' ⟨rfl, ⟨nd, rfl⟩⟩; (try first | exact ⟨rfl, _, World.drewN_drewN _ _ _⟩ | exact ⟨rfl, _, Eq.trans (World.drewN_drewN _ _ _) (congrArg (World.drewN _) (Nat.add_assoc _ _ _))⟩))))
  (try simp only [← af])
  go_roundg k1
  case measure => have := a5.1; omega
  case rel => exact ⟨(ai), (wrap64 (aa + 1)), prs, H', ⟨by have := a5.1; omega⟩, ⟨by (try simp only [af]); exact pkr ae.1⟩, ⟨pbg⟩⟩
 replace H := ifp H
 obtain ⟨bu, H⟩ := H
 have bv := decide_eq_true bu
 clear bu
 obtain ⟨aR, aD⟩ : ∃ y_ : List Int, y_ = (ai.set (aa : Int).toNat (-1)) := ⟨_, rfl⟩
 replace H : (omega_Accelerate.l0 k1 l0 aR l1 (l1.length : Int) (wrap64 (aa + 1))) = some r := hrp aD H
 have aU := am aD
 clear aD
 have H' := am H
 clear H
 obtain ⟨bk, bl, aV, aL, aG⟩ := bint aI.1 HB.1 aa
 cases aL
 iterate 4 (try go_wp2_with (first | (go_at_call 99; (with_reducible refine (omega_rank.calls (rd l1 aa) aq _ A15.1).mono ?_); rintro e w' ⟨rfl, ⟨nd, rfl⟩⟩; (try first | exact ⟨rfl, _, World.drewN_drewN _ _ _⟩ | exact ⟨rfl, _, Eq.trans (World.drewN_drewN _ _ _) (congrArg (World.drewN _) (Nat.add_assoc _ _ _))⟩); have ag : 0 ≤ (aa : Int) := dq; have ah : aa < (l0.length : Int) := dq; obtain ⟨aw, ak, ab⟩ := Kd.at_int aH.1 aa ag ah; cases ak; replace ab := cbl HB.1 ab; replace ag := eq_true ag; replace ah := eq_true ah) | (go_at_call 99; (with_reducible refine (omega_rank.calls (rd l0 aa) ar _ a2.1).mono ?_); rintro e w' ⟨rfl, ⟨nd, rfl⟩⟩; (try first | exact ⟨rfl, _, World.drewN_drewN _ _ _⟩ | exact ⟨rfl, _, Eq.trans (World.drewN_drewN _ _ _) (congrArg (World.drewN _) (Nat.add_assoc _ _ _))⟩); have aP : 0 ≤ (aa : Int) := dq; have aQ : (aa : Int) < ((ai.length : Int) : Int) := dq; obtain ⟨aF, bf, ay, az, aM, bd, au⟩ := Kd.R_form ae.1 (by omega); (first | cases ay | (injection ay with ea_ en_ ec_; (first | subst ea_ | (injection ea_ with ea_; subst ea_)); subst ec_; clear en_)); have aT := am az; have a8 := am au; clear az aM au; obtain ⟨aO, aN⟩ := Kd.R_celln 0 ae.1 (aa : Int) aP aQ; replace aP := eq_true aP; replace aQ := eq_true aQ; obtain ⟨hy21_, hz21_⟩ := Kd.R_celln 0 ae.1 (aa : Int) (dq) (dq); have av := Kd.R_putg ae.1 (aa : Int) (-1)) | ((with_reducible refine gate_store (t := 3) (p := 36) rfl ?_); (try (rw [drewN_self wr]; generalize hq_ : World.drewN wr _ = wr; replace ae := am (Kd.R_at hq_ ae.1); replace HB := am (below_at hq_ HB.1); clear hq_; (try (obtain ⟨hy21_, hz21_⟩ := Kd.R_celln 0 ae.1 (aa : Int) (dq) (dq))); (try (have av := Kd.R_putg ae.1 (aa : Int) (-1))))); refine store_event (t := 3) (p := 36) (v := ?vo_w22) (w1 := (wr.setCell ⟨aF, (aa : Int).toNat, none⟩ (.int .i64 (-1)))) ?hg ?ho ?hn ?hr ?_; (case ho => rfl); (case hg => rfl); (case hn => rfl); (case hr => first | (go_simp; done) | (go_simp; rfl)); intro bn hw; have hg : wr.grownBy bn (some aF) := (by rw [hw]; exact av.2); have hp_ : Kd.R (Kd.int .i64) 3 bn w.heap.size (fun _ => True) (.slice (some ⟨aF, 0, none⟩) ai.length aK) aR := (by rw [hw, aU.1]; exact av.1); clear av; replace ae := am hp_; replace HB := am ((by rw [hw]; exact below_set (HB.1) aT.1 : Below w.heap.size w bn)); clear hg hw hp_)); try go_quiet (first | (go_at_call 99; (with_reducible refine (omega_rank.calls (rd l1 aa) aq _ A15.1).mono ?_); rintro e w' ⟨rfl, ⟨nd, rfl⟩⟩; (try first | exact ⟨rfl, _, World.drewN_drewN _ _ _⟩ | exact ⟨rfl, _, Eq.trans (World.drewN_drewN _ _ _) (congrArg (World.drewN _) (Nat.add_assoc _ _ _))⟩); have ag : 0 ≤ (aa : Int) := dq; have ah : aa < (l0.length : Int) := dq; obtain ⟨aw, ak, ab⟩ := Kd.at_int aH.1 aa ag ah; cases ak; replace ab := cbl HB.1 ab; replace ag := eq_true ag; replace ah := eq_true ah) | (go_at_call 99; (with_reducible refine (omega_rank.calls (rd l0 aa) ar _ a2.1).mono ?_); rintro e w' ⟨rfl, ⟨nd, rfl⟩⟩; (try first | exact ⟨rfl, _, World.drewN_drewN _ _ _⟩ | exact ⟨rfl, _, Eq.trans (World.drewN_drewN _ _ _) (congrArg (World.drewN _) (Nat.add_assoc _ _ _))⟩); have aP : 0 ≤ (aa : Int) := dq; have aQ : (aa : Int) < ((ai.length : Int) : Int) := dq; obtain ⟨aF, bf, ay, az, aM, bd, au⟩ := Kd.R_form ae.1 (by omega); (first | cases ay | (injection ay with ea_ en_ ec_; (first | subst ea_ | (injection ea_ with ea_; subst ea_)); subst ec_; clear en_)); have aT := am az; have a8 := am au; clear az aM au; obtain ⟨aO, aN⟩ := Kd.R_celln 0 ae.1 (aa : Int) aP aQ; replace aP := eq_true aP; replace aQ := eq_true aQ; obtain ⟨hy21_, hz21_⟩ := Kd.R_celln 0 ae.1 (aa : Int) (dq) (dq); have av := Kd.R_putg ae.1 (aa : Int) (-1))))
 (try simp only [← af])
 go_roundg k1
 case measure => have := a5.1; omega
 case rel => exact ⟨(aR), (wrap64 (aa + 1)), prs, H', ⟨by have := a5.1; omega⟩, ⟨by (try simp only [af]); exact pkr ae.1⟩, ⟨pbg⟩⟩

end Go.Proofs.Ytaoogghpadifiaa.P
