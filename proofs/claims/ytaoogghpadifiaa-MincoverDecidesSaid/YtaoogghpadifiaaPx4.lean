-- LAID BY OUR PROGRAM OVER THE PRINT (xprint.py, part.py): Lean checks it.
import Derived.Test.YtaoogghpadifiaaPx0
import Derived.Laws.RangeString
import Derived.BigRegion
import Derived.Laws.EntriesVeiled
import Derived.RegionTactic
namespace Go.Proofs.Ytaoogghpadifiaa.P
open Go.RowKit Go.Proofs.YtaoogghpadifiaaW.PrintWords Go.Proofs.YtaoogghpadifiaaW.PrintLast Go.Proofs.YtaoogghpadifiaaW.PrintMore
attribute [local go_sem] max2_int min2_int max_two min_two max_three min_three max_four min_four   -- for this text's walks alone
set_option maxHeartbeats 8000000
set_option maxRecDepth 100000
set_option linter.unusedVariables false
set_option linter.unusedSimpArgs false

/-! ### net_Name: function 92 -/
-- IMPORTS Derived.Laws.RangeString
/-- A byte of a name, at its place. -/
def nameC (i c : Int) : Bool := (decide (97 ≤ c) && decide (c ≤ 122)) || c == 95 || (decide (0 < i) && ((decide (48 ≤ c) && decide (c ≤ 57)) || c == 46))
def nameB (s : ByteArray) : Bool := decide (1 ≤ s.size) && decide (s.size ≤ 16) && (List.range s.size).all fun i => nameC (i : Int) (bt s (i : Int))
def net_Name.f (a0 : ByteArray) : Option Bool := some (nameB a0)
/-- A sign that is no single byte is none of a name. -/
theorem decode_far (s : ByteArray) (pos : Nat) (h : pos < s.size) (ha : ¬ (s[pos]'h).toNat < 128) : ¬ (Utf8.decode s pos).1 < 128 := by
 have e : s.get! (pos + 0) = s[pos]'h := by
  show s.get! pos = _
  simp [ByteArray.get!, getElem!_pos, h]
  rfl
 unfold Utf8.decode
 simp only [e]
 rw [if_neg ha]
 repeat' first | split
 all_goals simp_all [Utf8.runeError]
 all_goals omega
theorem next_some {b pos : Nat} {s : ByteArray} {W : World} (P : Program) (ty : TypeId) (hb : W.heap[b]? = some (.stringIter s pos)) (h : pos < s.size) :
  (Instr.next (.pointer (some ⟨b, 0, none⟩)) true ty).run P W = .ok (.tuple #[.bool true, .int .i64 pos, .int .i32 (Utf8.decode s pos).1]) { W with heap := W.heap.setIfInBounds b (.stringIter s (pos + (Utf8.decode s pos).2)) } := by
 simp [Instr.next, getObj, setObj, Sem.run, hb, h, goInt]
theorem next_none {b pos : Nat} {s : ByteArray} {W : World} (P : Program) (ty : TypeId) (hb : W.heap[b]? = some (.stringIter s pos)) (h : ¬ pos < s.size) :
  (Instr.next (.pointer (some ⟨b, 0, none⟩)) true ty).run P W = .ok (.tuple #[.bool false]) W := by
 simp [Instr.next, getObj, Sem.run, hb, h]
theorem iter_step {w wr w2 : World} {b pos pos' : Nat} {s : ByteArray} (hb : wr.heap[b]? = some (.stringIter s pos)) (hB : Below w.heap.size w wr) (hn : w.heap.size ≤ b) (h : w2 = { wr with heap := wr.heap.setIfInBounds b (.stringIter s pos') }) :
  w2.heap[b]? = some (.stringIter s pos') ∧ Below w.heap.size w w2 := by
 subst h
 refine ⟨?_, hB.os, hB.tape, hB.output, by simpa using hB.size, fun k hk => ?_⟩
 ·obtain ⟨h1, h2⟩ := Array.getElem?_eq_some_iff.mp hb
  simp [Array.getElem?_setIfInBounds, h1]
 ·rw [← hB.block k hk]
  show (wr.heap.setIfInBounds b _)[k]? = _
  rw [Array.getElem?_setIfInBounds, if_neg (by omega)]
theorem nameB_no {s : ByteArray} {i : Nat} (hi : i < s.size) (h : nameC (i : Int) (bt s (i : Int)) = false) : nameB s = false := by
 unfold nameB
 rw [Bool.and_eq_false_iff]
 refine .inr (Bool.eq_false_iff.2 fun e => ?_)
 have := List.all_eq_true.1 e i (List.mem_range.2 hi)
 rw [h] at this
 cases this
theorem nameB_yes {s : ByteArray} (h1 : 1 ≤ s.size) (h2 : s.size ≤ 16) (h : ∀ i, i < s.size → nameC (i : Int) (bt s (i : Int)) = true) : nameB s = true := by
 unfold nameB
 rw [decide_eq_true h1, decide_eq_true h2, Bool.true_and, Bool.true_and]
 exact List.all_eq_true.2 fun i hi => h i (List.mem_range.1 hi)
/-- The sign at a place: its first byte if that is a sign, and none of a name otherwise. -/
theorem sign_at (s : ByteArray) (pos : Nat) (h : pos < s.size) (i : Int) : nameC i ((Utf8.decode s pos).1 : Int) = nameC i (bt s (pos : Int)) ∧ (nameC i ((Utf8.decode s pos).1 : Int) = true → (Utf8.decode s pos).2 = 1) := by
 have hb : bt s (pos : Int) = ((s[pos]'h).toNat : Int) := by unfold bt; rw [dif_pos (by simpa using h)]; simp
 by_cases ha : (s[pos]'h).toNat < 128
 ·rw [decode_ascii s pos h ha]
  exact ⟨by rw [hb], fun _ => rfl⟩
 ·have hf := decode_far s pos h ha
  have no : ∀ c : Int, ¬ c < 128 → nameC i c = false := fun c hc => by
   unfold nameC
   rw [decide_eq_false (show ¬ c ≤ 122 by omega), decide_eq_false (show ¬ c ≤ 57 by omega), beq_eq_false_iff_ne.2 (show c ≠ 95 by omega), beq_eq_false_iff_ne.2 (show c ≠ 46 by omega)]
   simp
  rw [no _ (by omega), no (bt s (pos : Int)) (by rw [hb]; omega)]
  exact ⟨rfl, fun h => by cases h⟩

theorem net_Name.calls (a0 : ByteArray) (r : Bool) (w : World) (h : net_Name.f a0 = some r) :
  Calls Try.prog 92 #[.string a0] w fun e w' => e = .returned (.bool r) ∧ Below w.heap.size w w' := by
 have hr : nameB a0 = r := Option.some.inj h
 have HR := Aside0.mk hr
 clear h hr
 by_cases c1 : (a0.size : Int) < 1
 ·have hf : nameB a0 = false := by unfold nameB; rw [decide_eq_false (by omega)]; rfl
  have c1b : decide ((a0.size : Int) < 1) = true := decide_eq_true c1
  have c1c : decide (a0.size < 1) = true := decide_eq_true (by omega)
  have aa := Aside0.mk (HR.out.symm.trans hf)
  clear hf HR c1
  go_enter Try.func92, Try.ntmps92
  go_wp2
  go_ret
  have e_ := aa.out
  subst e_
  exact ⟨rfl, Below.refl _ _⟩
 ·have c1b : decide ((a0.size : Int) < 1) = false := decide_eq_false c1
  have c1c : decide (a0.size < 1) = false := decide_eq_false (by omega)
  by_cases c2 : (16 : Int) < (a0.size : Int)
  ·have hf : nameB a0 = false := by unfold nameB; rw [decide_eq_false (show ¬ a0.size ≤ 16 by omega)]; simp
   have c2b : decide ((16 : Int) < (a0.size : Int)) = true := decide_eq_true c2
   have c2c : decide (16 < a0.size) = true := decide_eq_true (by omega)
   have aa := Aside0.mk (HR.out.symm.trans hf)
   clear hf HR c1 c2
   go_enter Try.func92, Try.ntmps92
   go_wp2
   go_ret
   have e_ := aa.out
   subst e_
   exact ⟨rfl, Below.refl _ _⟩
  ·have c2b : decide ((16 : Int) < (a0.size : Int)) = false := decide_eq_false c2
   have c2c : decide (16 < a0.size) = false := decide_eq_false (by omega)
   have S1 := Aside0.mk (show 1 ≤ a0.size by omega)
   have S2 := Aside0.mk (show a0.size ≤ 16 by omega)
   clear c1 c2
   go_enter Try.func92, Try.ntmps92
   go_wp2
   have HI := Aside0.mk (show (w.iter a0 0).heap[w.heap.size]? = some (.stringIter a0 0) from World.iter_heap w a0 0)
   have HB := Aside0.mk (show Below w.heap.size w (w.iter a0 0) from qCA (Below.refl _ _) _)
   go_loopg [3] a0.size (fun kq v3 w' => ∃ pos : Nat, Aside0 (kq = a0.size - pos) ∧ Aside0 (w'.heap[w.heap.size]? = some (.stringIter a0 pos)) ∧ Aside0 (∀ i, i < pos → nameC (i : Int) (bt a0 (i : Int)) = true) ∧ Aside0 (Below w.heap.size w w'))
   case atStart => exact ⟨0, ⟨rfl⟩, HI, ⟨fun i hi => absurd hi (Nat.not_lt_zero _)⟩, HB⟩
   case round =>
    clear HI HB
    obtain ⟨pos, HK, HI, HO, HB⟩ := hrel
    by_cases d1 : pos < a0.size
    case neg =>
     have hnx := fun ty => next_none Try.prog ty HI.out d1
     have aa := Aside0.mk (HR.out.symm.trans (nameB_yes S1.out S2.out (fun i hi => HO.out i (by omega))))
     clear d1
     go_wp2
     go_ret
     have e_ := aa.out
     subst e_
     exact ⟨rfl, HB.out⟩
    have ae := fun ty => next_some Try.prog ty HI.out d1
    obtain ⟨ag, ah⟩ := sign_at a0 pos d1 (pos : Int)
    obtain ⟨w2, af⟩ : ∃ w2 : World, w2 = { wr with heap := wr.heap.setIfInBounds w.heap.size (.stringIter a0 (pos + (Utf8.decode a0 pos).2)) } := ⟨_, rfl⟩
    have hit := iter_step HI.out HB.out (Nat.le_refl _) af
    obtain ⟨c, hc⟩ : ∃ c : Int, c = ((Utf8.decode a0 pos).1 : Int) := ⟨_, rfl⟩
    have hnx : ∀ ty, (Instr.next (.pointer (some ⟨w.heap.size, 0, none⟩)) true ty).run Try.prog wr = .ok (.tuple #[.bool true, .int .i64 pos, .int .i32 c]) w2 := fun ty => by rw [af, hc]; exact ae ty
    rw [← hc] at ag ah
    have ab := Aside0.mk ag
    have ac := Aside0.mk ah
    have HIT := Aside0.mk hit
    have D1 := Aside0.mk d1
    clear ag ah hit ae hc af d1
    cases e1 : decide (97 ≤ c) with
    | true =>
     cases e2 : decide (c ≤ 122) with
     | true =>
      have OK := Aside0.mk (show nameC (pos : Int) c = true by unfold nameC; rw [e1, e2]; rfl)
      go_wp2
      go_roundg (a0.size - (pos + 1))
      case measure => have := HK.out; have := D1.out; omega
      case rel =>
       have h1 := HIT.out.1
       rw [ac.out OK.out] at h1
       refine ⟨pos + 1, ⟨rfl⟩, ⟨h1⟩, ⟨fun i hi => ?_⟩, ⟨HIT.out.2⟩⟩
       by_cases e : i = pos
       ·subst e; exact ab.out.symm.trans OK.out
       ·exact HO.out i (by omega)
     | false =>
      cases e3 : (c == 95) with
      | true =>
       have OK := Aside0.mk (show nameC (pos : Int) c = true by unfold nameC; rw [e1, e2, e3]; rfl)
       go_wp2
       go_roundg (a0.size - (pos + 1))
       case measure => have := HK.out; have := D1.out; omega
       case rel =>
        have h1 := HIT.out.1
        rw [ac.out OK.out] at h1
        refine ⟨pos + 1, ⟨rfl⟩, ⟨h1⟩, ⟨fun i hi => ?_⟩, ⟨HIT.out.2⟩⟩
        by_cases e : i = pos
        ·subst e; exact ab.out.symm.trans OK.out
        ·exact HO.out i (by omega)
      | false =>
       cases e4 : decide (0 < (pos : Int)) with
       | true =>
        have e4n : decide (0 < pos) = true := (decide_eq_decide.2 (by omega)).trans e4
        cases e5 : decide (48 ≤ c) with
        | true =>
         cases e6 : decide (c ≤ 57) with
         | true =>
          have OK := Aside0.mk (show nameC (pos : Int) c = true by unfold nameC; rw [e1, e2, e3, e4, e5, e6]; rfl)
          go_wp2
          go_roundg (a0.size - (pos + 1))
          case measure => have := HK.out; have := D1.out; omega
          case rel =>
           have h1 := HIT.out.1
           rw [ac.out OK.out] at h1
           refine ⟨pos + 1, ⟨rfl⟩, ⟨h1⟩, ⟨fun i hi => ?_⟩, ⟨HIT.out.2⟩⟩
           by_cases e : i = pos
           ·subst e; exact ab.out.symm.trans OK.out
           ·exact HO.out i (by omega)
         | false =>
          cases e7 : (c == 46) with
          | true =>
           have OK := Aside0.mk (show nameC (pos : Int) c = true by unfold nameC; rw [e1, e2, e3, e4, e5, e6, e7]; rfl)
           go_wp2
           go_roundg (a0.size - (pos + 1))
           case measure => have := HK.out; have := D1.out; omega
           case rel =>
            have h1 := HIT.out.1
            rw [ac.out OK.out] at h1
            refine ⟨pos + 1, ⟨rfl⟩, ⟨h1⟩, ⟨fun i hi => ?_⟩, ⟨HIT.out.2⟩⟩
            by_cases e : i = pos
            ·subst e; exact ab.out.symm.trans OK.out
            ·exact HO.out i (by omega)
          | false =>
           have aa := Aside0.mk (HR.out.symm.trans (nameB_no D1.out (ab.out.symm.trans (show nameC (pos : Int) c = false by unfold nameC; rw [e1, e2, e3, e4, e5, e6, e7]; rfl))))
           go_wp2
           go_ret
           have e_ := aa.out
           subst e_
           exact ⟨rfl, HIT.out.2⟩
        | false =>
         cases e7 : (c == 46) with
         | true =>
          have OK := Aside0.mk (show nameC (pos : Int) c = true by unfold nameC; rw [e1, e2, e3, e4, e5, e7]; rfl)
          go_wp2
          go_roundg (a0.size - (pos + 1))
          case measure => have := HK.out; have := D1.out; omega
          case rel =>
           have h1 := HIT.out.1
           rw [ac.out OK.out] at h1
           refine ⟨pos + 1, ⟨rfl⟩, ⟨h1⟩, ⟨fun i hi => ?_⟩, ⟨HIT.out.2⟩⟩
           by_cases e : i = pos
           ·subst e; exact ab.out.symm.trans OK.out
           ·exact HO.out i (by omega)
         | false =>
          have aa := Aside0.mk (HR.out.symm.trans (nameB_no D1.out (ab.out.symm.trans (show nameC (pos : Int) c = false by unfold nameC; rw [e1, e2, e3, e4, e5, e7]; rfl))))
          go_wp2
          go_ret
          have e_ := aa.out
          subst e_
          exact ⟨rfl, HIT.out.2⟩
       | false =>
        have e4n : decide (0 < pos) = false := (decide_eq_decide.2 (by omega)).trans e4
        have aa := Aside0.mk (HR.out.symm.trans (nameB_no D1.out (ab.out.symm.trans (show nameC (pos : Int) c = false by unfold nameC; rw [e1, e2, e3, e4]; rfl))))
        go_wp2
        go_ret
        have e_ := aa.out
        subst e_
        exact ⟨rfl, HIT.out.2⟩
    | false =>
     cases e3 : (c == 95) with
     | true =>
      have OK := Aside0.mk (show nameC (pos : Int) c = true by unfold nameC; rw [e1, e3]; rfl)
      go_wp2
      go_roundg (a0.size - (pos + 1))
      case measure => have := HK.out; have := D1.out; omega
      case rel =>
       have h1 := HIT.out.1
       rw [ac.out OK.out] at h1
       refine ⟨pos + 1, ⟨rfl⟩, ⟨h1⟩, ⟨fun i hi => ?_⟩, ⟨HIT.out.2⟩⟩
       by_cases e : i = pos
       ·subst e; exact ab.out.symm.trans OK.out
       ·exact HO.out i (by omega)
     | false =>
      cases e4 : decide (0 < (pos : Int)) with
      | true =>
       have e4n : decide (0 < pos) = true := (decide_eq_decide.2 (by omega)).trans e4
       cases e5 : decide (48 ≤ c) with
       | true =>
        cases e6 : decide (c ≤ 57) with
        | true =>
         have OK := Aside0.mk (show nameC (pos : Int) c = true by unfold nameC; rw [e1, e3, e4, e5, e6]; rfl)
         go_wp2
         go_roundg (a0.size - (pos + 1))
         case measure => have := HK.out; have := D1.out; omega
         case rel =>
          have h1 := HIT.out.1
          rw [ac.out OK.out] at h1
          refine ⟨pos + 1, ⟨rfl⟩, ⟨h1⟩, ⟨fun i hi => ?_⟩, ⟨HIT.out.2⟩⟩
          by_cases e : i = pos
          ·subst e; exact ab.out.symm.trans OK.out
          ·exact HO.out i (by omega)
        | false =>
         cases e7 : (c == 46) with
         | true =>
          have OK := Aside0.mk (show nameC (pos : Int) c = true by unfold nameC; rw [e1, e3, e4, e5, e6, e7]; rfl)
          go_wp2
          go_roundg (a0.size - (pos + 1))
          case measure => have := HK.out; have := D1.out; omega
          case rel =>
           have h1 := HIT.out.1
           rw [ac.out OK.out] at h1
           refine ⟨pos + 1, ⟨rfl⟩, ⟨h1⟩, ⟨fun i hi => ?_⟩, ⟨HIT.out.2⟩⟩
           by_cases e : i = pos
           ·subst e; exact ab.out.symm.trans OK.out
           ·exact HO.out i (by omega)
         | false =>
          have aa := Aside0.mk (HR.out.symm.trans (nameB_no D1.out (ab.out.symm.trans (show nameC (pos : Int) c = false by unfold nameC; rw [e1, e3, e4, e5, e6, e7]; rfl))))
          go_wp2
          go_ret
          have e_ := aa.out
          subst e_
          exact ⟨rfl, HIT.out.2⟩
       | false =>
        cases e7 : (c == 46) with
        | true =>
         have OK := Aside0.mk (show nameC (pos : Int) c = true by unfold nameC; rw [e1, e3, e4, e5, e7]; rfl)
         go_wp2
         go_roundg (a0.size - (pos + 1))
         case measure => have := HK.out; have := D1.out; omega
         case rel =>
          have h1 := HIT.out.1
          rw [ac.out OK.out] at h1
          refine ⟨pos + 1, ⟨rfl⟩, ⟨h1⟩, ⟨fun i hi => ?_⟩, ⟨HIT.out.2⟩⟩
          by_cases e : i = pos
          ·subst e; exact ab.out.symm.trans OK.out
          ·exact HO.out i (by omega)
        | false =>
         have aa := Aside0.mk (HR.out.symm.trans (nameB_no D1.out (ab.out.symm.trans (show nameC (pos : Int) c = false by unfold nameC; rw [e1, e3, e4, e5, e7]; rfl))))
         go_wp2
         go_ret
         have e_ := aa.out
         subst e_
         exact ⟨rfl, HIT.out.2⟩
      | false =>
       have e4n : decide (0 < pos) = false := (decide_eq_decide.2 (by omega)).trans e4
       have aa := Aside0.mk (HR.out.symm.trans (nameB_no D1.out (ab.out.symm.trans (show nameC (pos : Int) c = false by unfold nameC; rw [e1, e3, e4]; rfl))))
       go_wp2
       go_ret
       have e_ := aa.out
       subst e_
       exact ⟨rfl, HIT.out.2⟩

/-! ### qBA: function 101 -/
def qBA.l0 : Nat → List Int → Int → Int → Option (Bool)
 | 0, _, _, _ => none
 | k + 1, x11, x12, x13 => if x13 < x12 then (if 0 ≤ x13 then (if x13 < (x11.length : Int) then (if (rd x11 x13) < 0 then (some false) else (if (rd x11 x13) > 1048576 then (some false) else (qBA.l0 k x11 x12 (wrap64 (x13 + 1))))) else (none)) else (none)) else (some true)
def qBA.f (k : Nat) (l0 : List Int) (a1 : Int) : Option (Bool) := if (l0.length : Int) = a1 then (qBA.l0 k l0 (l0.length : Int) 0) else (some false)
theorem qBA.mono_l : ∀ k, M3 qBA.l0 k
 | 0 => fun _ _ _ r h => by simp [qBA.l0] at h
 | k + 1 => by
  have ap := qBA.mono_l k
  ·intro y0 y1 y2
   unfold qBA.l0
   repeat' first | (with_reducible first | apply ap | apply lr | apply ln | apply li | refine lb ?_ fun _ => ?_)
theorem qBA.mono : ∀ a0 a1 k, LeO (qBA.f k a0 a1) (qBA.f (k + 1) a0 a1) := by
 intro a0 a1 k
 have ap := qBA.mono_l k
 unfold qBA.f
 repeat' first | (with_reducible first | apply ap | apply lr | apply ln | apply li | refine lb ?_ fun _ => ?_)
theorem qBA.calls (k : Nat) (A0 : Option Addr) (c0 : Nat) (l0 : List Int) (a1 : Int) (r : Bool) (w : World) (ar : Kd.C (Kd.int .i64) w A0 l0.length l0) (hc0 : l0.length ≤ c0) (h : qBA.f k l0 a1 = some r) :
  Calls Try.prog 101 #[.slice A0 l0.length c0, .int .i64 a1] w fun e w' => e = .returned (.bool r) ∧ Drawn0 w w' := by
 have aj := am ar
 have ax := am hc0
 clear ar hc0
 have H := h
 unfold qBA.f at H
 clear h
 replace H := ife H
 rcases H with ⟨af, ag, H⟩ | ⟨af, ag, H⟩
 rotate_left
 ·obtain rfl := Option.some.inj H
  go_enter Try.func101, Try.ntmps101
  go_wp2
  go_ret
  exact ⟨prs, pdr⟩
 have H' := am H
 clear H
 go_enter Try.func101, Try.ntmps101
 go_wp2
 go_loopg [13] k (fun kq aw w' => ∃ (aa : Int), aw = .int .i64 aa ∧ Aside0 (qBA.l0 kq l0 (l0.length : Int) aa = some r) ∧ Aside0 (kq ≤ k) ∧ Drawn0 w w')
 case atStart => exact ⟨(0), prs, H', ⟨Nat.le_refl _⟩, pdr⟩
 clear H'
 try clear af ag
 obtain ⟨aa, rfl, HA, aq, ⟨m1, rfl⟩⟩ := hrel
 obtain _ | k1 := gk
 ·exact absurd HA.1 (by simp [qBA.l0])
 have H := HA.1
 clear HA
 simp only [qBA.l0] at H
 replace H := ifl H
 rcases H with ⟨ak, H⟩ | ⟨ak, H⟩
 rotate_left
 ·obtain rfl := Option.some.inj H
  go_wp2
  go_ret
  exact ⟨prs, pdr⟩
 replace H := ifd H
 obtain ⟨au, H⟩ := H
 replace H := ifd H
 obtain ⟨av, H⟩ := H
 replace H := ifl H
 rcases H with ⟨al, H⟩ | ⟨al, H⟩
 ·obtain rfl := Option.some.inj H
  obtain ⟨ah, ai, ae, ac, ab⟩ := dint aj.1 aa
  cases ac
  go_wp2
  go_ret
  exact ⟨prs, pdr⟩
 replace H := ifg H
 rcases H with ⟨ao, H⟩ | ⟨ao, H⟩
 ·obtain rfl := Option.some.inj H
  obtain ⟨ah, ai, ae, ac, ab⟩ := dint aj.1 aa
  cases ac
  go_wp2
  go_ret
  exact ⟨prs, pdr⟩
 have H' := am H
 clear H
 obtain ⟨ah, ai, ae, ac, ab⟩ := dint aj.1 aa
 cases ac
 go_wp2
 go_roundg k1
 case measure => have := aq.1; omega
 case rel => exact ⟨(wrap64 (aa + 1)), prs, H', ⟨by have := aq.1; omega⟩, pdr⟩

/-! ### net_checkPlace: function 94 -/
def placeE (x c : Int) : Int := if c < 0 ∨ c > 1048576 then 1 else if (x < 0 ∨ x > 1048576) ∨ (c ≠ 0 ∧ x > c) then 10 else 0
def net_checkPlace.f (ac : ByteArray) (aa : Int) (ab : Int) : Option Int := some (placeE aa ab)
theorem valid_one (x : Int) : qBA.f 5 [x] 1 = some (decide (0 ≤ x) && decide (x ≤ 1048576)) := by
 have hr : rd [x] 0 = x := rfl
 have h1 : wrap64 (0 + 1) = 1 := by unfold wrap64; omega
 unfold qBA.f
 rw [if_pos (by simp)]
 simp only [qBA.l0, List.length_cons, List.length_nil, hr, h1]
 by_cases c1 : x < 0
 ·simp [c1]; omega
 ·by_cases c2 : x > 1048576
  ·simp [c1, c2]
  ·simp [c1, c2]; omega
theorem C_one {w : World} {b t : Nat} {x : Int} (h : w.heap[b]? = some (.cells #[.int .i64 x] t (0, 0))) : Kd.C (Kd.int .i64) w (some ⟨b, 0, none⟩) 1 [x] := by
 refine ⟨rfl, by decide, fun _ => ⟨_, rfl, fun j p hj => ⟨[.int .i64 x], rfl, ?_, fun i u hu => ?_⟩⟩⟩
 ·cases j with
  | zero => cases hj; exact rfl
  | succ j => cases hj
 ·cases j with
  | succ j => cases hj
  | zero =>
   cases i with
   | zero => cases hu; exact (qBI h 0).trans rfl
   | succ i => cases hu
theorem net_checkPlace.calls (ac : ByteArray) (aa : Int) (ab : Int) (r : Int) (w : World) (h : net_checkPlace.f ac aa ab = some r) :
  Calls Try.prog 94 #[.agg #[.string ac, .int .i64 aa, .int .i64 ab]] w fun e w' => e = .returned (.int .i64 r) ∧ Below w.heap.size w w' := by
 have hr : placeE aa ab = r := Option.some.inj h
 clear h
 have HR := Aside0.mk hr
 clear hr
 have hb0 : (w.alloc (.cells #[.string ac, .int .i64 aa, .int .i64 ab] 64)).heap[w.heap.size]? = some (.cells #[.string ac, .int .i64 aa, .int .i64 ab] 64 (0, 0)) := alloc_new _ _
 have ai := Aside0.mk hb0
 have c0 := qBI hb0 1
 have c1 := qBI hb0 2
 have c0' : (w.alloc (.cells #[.string ac, .int .i64 aa, .int .i64 ab] 64)).cell? ⟨w.heap.size, 1, none⟩ = some (.int .i64 aa) := c0.trans rfl
 have c1' : (w.alloc (.cells #[.string ac, .int .i64 aa, .int .i64 ab] 64)).cell? ⟨w.heap.size, 2, none⟩ = some (.int .i64 ab) := c1.trans rfl
 clear hb0 c0 c1
 have hu := Try.underlying64
 have hs1 : (w.alloc (.cells #[.string ac, .int .i64 aa, .int .i64 ab] 64)).heap.size = w.heap.size + 1 := by simp
 have ag := Aside0.mk (show Below w.heap.size w (w.alloc (.cells #[.string ac, .int .i64 aa, .int .i64 ab] 64)) from qCA (Below.refl _ _) _)
 have bad (b1 b2 : Bool) (d1b : decide (ab < 0) = b1) (d2b : decide (1048576 < ab) = b2) (hor : (b1 || b2) = true) :
   Calls Try.prog 94 #[.agg #[.string ac, .int .i64 aa, .int .i64 ab]] w fun e w' => e = .returned (.int .i64 r) ∧ Below w.heap.size w w' := by
  have ae := Aside0.mk (HR.out.symm.trans (show placeE aa ab = 1 by
   unfold placeE
   rw [if_pos]
   rcases Bool.or_eq_true _ _ ▸ hor with h | h
   ·rw [h] at d1b; exact .inl (of_decide_eq_true d1b)
   ·rw [h] at d2b; exact .inr (of_decide_eq_true d2b)))
  cases b1 with
  | true =>
   clear d2b hor
   go_enter Try.func94, Try.ntmps94
   go_wp2
   go_ret
   have e_ := ae.out
   subst e_
   exact ⟨rfl, ag.out⟩
  | false =>
   cases b2 with
   | false => cases hor
   | true =>
    clear hor
    go_enter Try.func94, Try.ntmps94
    go_wp2
    go_ret
    have e_ := ae.out
    subst e_
    exact ⟨rfl, ag.out⟩
 cases d1b : decide (ab < 0) with
 | true => exact bad _ _ d1b rfl rfl
 | false =>
 cases d2b : decide (1048576 < ab) with
 | true => exact bad _ _ d1b d2b rfl
 | false =>
  clear bad
  have ah := Aside0.mk (show Kd.C (Kd.int .i64) ((w.alloc (.cells #[.string ac, .int .i64 aa, .int .i64 ab] 64)).alloc (.cells #[.int .i64 aa] 3)) (some ⟨w.heap.size + 1, 0, none⟩) 1 [aa] by rw [← hs1]; exact C_one (alloc_new _ _))
  clear hs1
  have d1 := of_decide_eq_false d1b
  have d2 := of_decide_eq_false d2b
  have hpe : placeE aa ab = if (aa < 0 ∨ aa > 1048576) ∨ (ab ≠ 0 ∧ aa > ab) then 10 else 0 := by unfold placeE; rw [if_neg (fun h => h.elim d1 d2)]
  have ae := Aside0.mk (HR.out.symm.trans hpe)
  clear hpe d1 d2 HR
  cases d3b : (decide (0 ≤ aa) && decide (aa ≤ 1048576)) with
  | false =>
   have af := Aside0.mk (ae.out.trans (if_pos (.inl (by
    rw [Bool.and_eq_false_iff] at d3b
    exact d3b.imp (fun h => by have := of_decide_eq_false h; omega) (fun h => by have := of_decide_eq_false h; omega)))))
   have HV := Aside0.mk ((valid_one aa).trans (congrArg some d3b))
   clear d3b ae
   go_enter Try.func94, Try.ntmps94
   go_wp2_with (first | (go_at_call 101; refine (qBA.calls 5 _ _ [aa] _ _ _ ah.out (Nat.le_refl 1) HV.out).mono ?_; rintro e w' ⟨rfl, ⟨n, rfl⟩⟩))
   go_ret
   have e_ := af.out
   subst e_
   exact ⟨rfl, qCC (qCA ag.out _) _⟩
  | true =>
   have HV := Aside0.mk ((valid_one aa).trans (congrArg some d3b))
   have d3 : ¬ (aa < 0 ∨ aa > 1048576) := by
    rw [Bool.and_eq_true] at d3b
    have h1 := of_decide_eq_true d3b.1
    have h2 := of_decide_eq_true d3b.2
    omega
   have D3 := Aside0.mk d3
   clear d3b d3
   cases d4b : (ab == 0) with
   | true =>
    have d4c : (ab != 0) = false := by rw [bne, d4b]; rfl
    have af := Aside0.mk (ae.out.trans (if_neg (fun h => h.elim D3.out (fun h => h.1 (beq_iff_eq.1 d4b)))))
    clear ae
    go_enter Try.func94, Try.ntmps94
    go_wp2_with (first | (go_at_call 101; refine (qBA.calls 5 _ _ [aa] _ _ _ ah.out (Nat.le_refl 1) HV.out).mono ?_; rintro e w' ⟨rfl, ⟨n, rfl⟩⟩))
    go_ret
    have e_ := af.out
    subst e_
    exact ⟨rfl, qCC (qCA ag.out _) _⟩
   | false =>
    have d4c : (ab != 0) = true := by rw [bne, d4b]; rfl
    have c0d : ∀ n, (((w.alloc (.cells #[.string ac, .int .i64 aa, .int .i64 ab] 64)).alloc (.cells #[.int .i64 aa] 3)).drewN n).cell? ⟨w.heap.size, 1, none⟩ = some (.int .i64 aa) := fun n => (qBI (qCF ai.out (qCC (qCA (Below.refl _ _) _) n)) 1).trans rfl
    have c1d : ∀ n, (((w.alloc (.cells #[.string ac, .int .i64 aa, .int .i64 ab] 64)).alloc (.cells #[.int .i64 aa] 3)).drewN n).cell? ⟨w.heap.size, 2, none⟩ = some (.int .i64 ab) := fun n => (qBI (qCF ai.out (qCC (qCA (Below.refl _ _) _) n)) 2).trans rfl
    cases d5b : decide (ab < aa) with
    | true =>
     have af := Aside0.mk (ae.out.trans (if_pos (.inr ⟨beq_eq_false_iff_ne.1 d4b, of_decide_eq_true d5b⟩)))
     clear ae
     go_enter Try.func94, Try.ntmps94
     go_wp2_with (first | (go_at_call 101; refine (qBA.calls 5 _ _ [aa] _ _ _ ah.out (Nat.le_refl 1) HV.out).mono ?_; rintro e w' ⟨rfl, ⟨n, rfl⟩⟩))
     go_ret
     have e_ := af.out
     subst e_
     exact ⟨rfl, qCC (qCA ag.out _) _⟩
    | false =>
     have af := Aside0.mk (ae.out.trans (if_neg (fun h => h.elim D3.out (fun h => of_decide_eq_false d5b h.2))))
     clear ae
     go_enter Try.func94, Try.ntmps94
     go_wp2_with (first | (go_at_call 101; refine (qBA.calls 5 _ _ [aa] _ _ _ ah.out (Nat.le_refl 1) HV.out).mono ?_; rintro e w' ⟨rfl, ⟨n, rfl⟩⟩))
     go_ret
     have e_ := af.out
     subst e_
     exact ⟨rfl, qCC (qCA ag.out _) _⟩

/-! ### qBB: function 107 -/
mutual
def qBB.l0 : Nat → List (S68) → Int → List (S68) → Int → Int → Option (Int)
 | 0, _, _, _, _, _ => none
 | k + 1, x0, x1, x7, x8, x9 => if x9 < x8 then (if 0 ≤ x9 then (if x9 < (x7.length : Int) then (if ((rd_T68 x7 x9).f0) < 0 then (qBB.j1 k x0 x1 x9 x7 x8 x9 true ((rd_T68 x7 x9).f0) ((rd_T68 x7 x9).f1)) else (qBB.j1 k x0 x1 x9 x7 x8 x9 (decide (((rd_T68 x7 x9).f0) ≥ x1)) ((rd_T68 x7 x9).f0) ((rd_T68 x7 x9).f1))) else (none)) else (none)) else (some 0)
def qBB.j1 : Nat → List (S68) → Int → Int → List (S68) → Int → Int → Bool → Int → Int → Option (Int)
 | 0, _, _, _, _, _, _, _, _, _ => none
 | k + 1, x0, x1, x5, x7, x8, x9, x14, ae, ac => if x14 = true then (some 7) else (if x5 > 0 then (if 0 ≤ (wrap64 (x5 - 1)) then (if (wrap64 (x5 - 1)) < (x0.length : Int) then (qBB.j2 k x0 x1 x7 x8 x9 (decide (((rd_T68 x0 (wrap64 (x5 - 1))).f0) ≥ ae)) ae ac) else (none)) else (none)) else (qBB.j2 k x0 x1 x7 x8 x9 false ae ac))
def qBB.j2 : Nat → List (S68) → Int → List (S68) → Int → Int → Bool → Int → Int → Option (Int)
 | 0, _, _, _, _, _, _, _, _ => none
 | k + 1, x0, x1, x7, x8, x9, a8, ae, ac => if a8 = true then (some 8) else (if ac < 1 then (some 9) else (if ac > 99 then (some 9) else (qBB.l0 k x0 x1 x7 x8 (wrap64 (x9 + 1)))))
end
def qBB.f (k : Nat) (l0 : List (S68)) (a1 : Int) : Option (Int) := qBB.l0 k l0 a1 l0 (l0.length : Int) 0
theorem qBB.mono_l : ∀ k, M5 qBB.l0 k ∧ M9 qBB.j1 k ∧ M8 qBB.j2 k
 | 0 => ⟨fun _ _ _ _ _ r h => by simp [qBB.l0] at h, fun _ _ _ _ _ _ _ _ _ r h => by simp [qBB.j1] at h, fun _ _ _ _ _ _ _ _ r h => by simp [qBB.j2] at h⟩
 | k + 1 => by
  obtain ⟨aT, aU, aV⟩ := qBB.mono_l k
  refine ⟨?_, ?_, ?_⟩ <;> dsimp only [M5, M8, M9] <;> intros <;> (first | unfold qBB.l0 | unfold qBB.j1 | unfold qBB.j2) <;> repeat' first | (with_reducible first | apply aT | apply aU | apply aV | apply lr | apply ln | apply li | refine lb ?_ fun _ => ?_)
theorem qBB.mono : ∀ a0 a1 k, LeO (qBB.f k a0 a1) (qBB.f (k + 1) a0 a1) := by
 intro a0 a1 k
 obtain ⟨aT, aU, aV⟩ := qBB.mono_l k
 unfold qBB.f
 repeat' first | (with_reducible first | apply aT | apply aU | apply aV | apply lr | apply ln | apply li | refine lb ?_ fun _ => ?_)
theorem qBB.calls (k : Nat) (A0 : Option Addr) (c0 : Nat) (l0 : List (S68)) (a1 : Int) (r : Int) (w : World) (a3 : Kd.C k68 w A0 l0.length l0) (hc0 : l0.length ≤ c0) (h : qBB.f k l0 a1 = some r) :
  Calls Try.prog 107 #[.slice A0 l0.length c0, .int .i64 a1] w fun e w' => e = .returned (.int .i64 r) ∧ Below w.heap.size w w' := by
 have a5 := Try.underlying68
 have a2 := am a3
 have bc := am hc0
 clear a3 hc0
 have HB := am (Below.refl w.heap.size w)
 have H := h
 unfold qBB.f at H
 clear h
 have H' := am H
 clear H
 go_enter Try.func107, Try.ntmps107
 go_wp2
 repeat (go_quiet (fail); try go_wp2)
 go_loopg [9] k (fun kq v9 w' => ∃ (ab : Int), v9 = .int .i64 ab ∧ Aside0 (qBB.l0 kq l0 a1 l0 (l0.length : Int) ab = some r) ∧ Aside0 (kq ≤ k) ∧ Aside0 (Below w.heap.size w w'))
 case atStart => exact ⟨(0), prs, H', ⟨Nat.le_refl _⟩, ⟨pbg⟩⟩
 clear H'
 obtain ⟨ab, rfl, HA, ay, HB⟩ := hrel
 obtain _ | k1 := gk
 ·exact absurd HA.1 (by simp [qBB.l0])
 have H := HA.1
 clear HA
 simp only [qBB.l0] at H
 replace H := ifl H
 rcases H with ⟨ax, H⟩ | ⟨ax, H⟩
 rotate_left
 ·obtain rfl := Option.some.inj H
  go_wp2
  repeat (go_quiet (fail); try go_wp2)
  go_ret
  exact ⟨per, pbg⟩
 replace H := ifd H
 obtain ⟨aG, H⟩ := H
 replace H := ifd H
 obtain ⟨aH, H⟩ := H
 have aO := am H
 clear H
 obtain ⟨aI, aJ, aA, aR, al, ao⟩ := bT68 a2.1 HB.1 ab
 cases aR
 go_upto_region 4 with (first | ((with_reducible refine qBN (N := 6) rfl ?_); refine box_ev ?_; intro aj hg w7 hbox hb; have aa := am hbox; have ah := gwl hg; have av := ah; replace HB := bsl hb; clear hb hbox hg; have aN := cf2 aa.1))
 repeat (go_quiet (first | ((with_reducible refine qBN (N := 6) rfl ?_); refine box_ev ?_; intro aj hg w7 hbox hb; have aa := am hbox; have ah := gwl hg; have av := ah; replace HB := bsl hb; clear hb hbox hg; have aN := cf2 aa.1)); go_upto_region 4 with (first | ((with_reducible refine qBN (N := 6) rfl ?_); refine box_ev ?_; intro aj hg w7 hbox hb; have aa := am hbox; have ah := gwl hg; have av := ah; replace HB := bsl hb; clear hb hbox hg; have aN := cf2 aa.1)))
 (try simp only [Act.put, List.setIfInBounds_toArray, List.set_cons_zero, List.set_cons_succ])
 go_cut [14] (fun a6 wc => ∃ (kq : Nat) (ap : Bool), a6 = .bool ap ∧ Aside0 (qBB.j1 kq l0 a1 ab l0 (l0.length : Int) ab ap ((rd_T68 l0 ab).f0) ((rd_T68 l0 ab).f1) = some r) ∧ Aside0 (kq ≤ k1) ∧ Aside0 (wc.heap[aj]? = some (.cells #[.int .i64 ((rd_T68 l0 ab).f0), .int .i64 ((rd_T68 l0 ab).f1)] 68 (0, 0))) ∧ Aside0 (Below w.heap.size w wc))
 case first =>
  have H := aO.1
  clear aO
  replace H := ifl H
  rcases H with ⟨ai, H⟩ | ⟨ai, H⟩
  ·(first | rw [ai] | (simp only [i64_w, i32_w]; rw [ai]) | skip)
   have H' := am H
   clear H
   have aK := cf2 aa.1
   go_wp2
   repeat (go_quiet (fail); try go_wp2)
   go_meet
   case rel => exact ⟨_, (true), prs, H', ⟨by have := ay.1; first | omega | exact Nat.le_refl _⟩, ⟨by (with_reducible repeat (first | refine qBK ?_ _ | refine qBM ?_ | refine qBL ?_ _)); exact bp2 (pbk aa.1)⟩, ⟨pbg⟩⟩
  (first | rw [ai] | (simp only [i64_w, i32_w]; rw [ai]) | skip)
  have H' := am H
  clear H
  have aL := cf2 aa.1
  go_wp2
  repeat (go_quiet (fail); try go_wp2)
  go_meet
  case rel => exact ⟨_, (decide (((rd_T68 l0 ab).f0) ≥ a1)), prs, H', ⟨by have := ay.1; first | omega | exact Nat.le_refl _⟩, ⟨by (with_reducible repeat (first | refine qBK ?_ _ | refine qBM ?_ | refine qBL ?_ _)); exact bp2 (pbk aa.1)⟩, ⟨pbg⟩⟩
 clear aO
 try clear ax c4 aG c5 aH c9 ai aK aL aN al ao aI aJ
 obtain ⟨kq, ap, rfl, HA, aM, aa, HB⟩ := hcut
 obtain _ | a4 := kq
 ·exact absurd HA.1 (by simp [qBB.j1])
 have H := HA.1
 clear HA
 simp only [qBB.j1] at H
 cases ap
 rotate_left
 ·rw [if_pos rfl] at H
  obtain rfl := Option.some.inj H
  go_wp2
  repeat (go_quiet (fail); try go_wp2)
  go_ret
  exact ⟨per, pbg⟩
 rw [if_neg Bool.false_ne_true] at H
 have aw := am H
 clear H
 go_upto_region 6 with (fail)
 repeat (go_quiet (fail); go_upto_region 6 with (fail))
 go_cut [24] (fun a7 wc => ∃ (kq : Nat) (ag : Bool), a7 = .bool ag ∧ Aside0 (qBB.j2 kq l0 a1 l0 (l0.length : Int) ab ag ((rd_T68 l0 ab).f0) ((rd_T68 l0 ab).f1) = some r) ∧ Aside0 (kq ≤ a4) ∧ Aside0 (wc.heap[aj]? = some (.cells #[.int .i64 ((rd_T68 l0 ab).f0), .int .i64 ((rd_T68 l0 ab).f1)] 68 (0, 0))) ∧ Aside0 (Below w.heap.size w wc))
 case first =>
  have H := aw.1
  clear aw
  replace H := ifg H
  rcases H with ⟨af, H⟩ | ⟨af, H⟩
  rotate_left
  ·(first | rw [af] | (simp only [i64_w, i32_w]; rw [af]) | skip)
   have H' := am H
   clear H
   go_wp2
   repeat (go_quiet (fail); try go_wp2)
   go_meet
   case rel => exact ⟨_, (false), prs, H', ⟨by have := ay.1; have := aM.1; first | omega | exact Nat.le_refl _⟩, ⟨pbk aa.1⟩, ⟨pbg⟩⟩
  (first | rw [af] | (simp only [i64_w, i32_w]; rw [af]) | skip)
  obtain ⟨aq, ak⟩ : ∃ j_ : Int, (wrap64 (ab - 1)) = j_ := ⟨_, rfl⟩
  replace H : (if 0 ≤ (aq) then (if (aq) < (l0.length : Int) then (qBB.j2 a4 l0 a1 l0 (l0.length : Int) ab (decide (((rd_T68 l0 (aq)).f0) ≥ ((rd_T68 l0 ab).f0))) ((rd_T68 l0 ab).f0) ((rd_T68 l0 ab).f1)) else (none)) else (none)) = some r := by first | (rw [ak] at H; exact H) | (simp only [ak] at H ⊢; exact H)
  have hji15w : (IntKind.i64.wrap (ab - 1)) = aq := (i64_w _).trans ak
  replace H := ifd H
  obtain ⟨aC, H⟩ := H
  replace H := ifd H
  obtain ⟨aD, H⟩ := H
  have H' := am H
  clear H
  obtain ⟨aX, aY, aB, aS, ar, au⟩ := bT68 a2.1 HB.1 (aq)
  obtain rfl : aA = aB := (by injection aS)
  have aZ := cf2 aa.1
  go_wp2
  repeat (go_quiet (fail); try go_wp2)
  go_meet
  case rel => exact ⟨_, (decide (((rd_T68 l0 (aq)).f0) ≥ ((rd_T68 l0 ab).f0))), (by first | rfl | (simp; done) | (simp only [← ak] <;> (first | rfl | simp)) | (simp [*]; done)), H', ⟨by have := ay.1; have := aM.1; first | omega | exact Nat.le_refl _⟩, ⟨pbk aa.1⟩, ⟨pbg⟩⟩
 clear aw
 try clear c3 ax c4 aG c5 aH c9 ai bd af aP aC aQ aD aK aL aZ aN al ao ar au aI aX aJ aY
 obtain ⟨kq, ag, rfl, HA, az, aa, HB⟩ := hcut
 obtain _ | aW := kq
 ·exact absurd HA.1 (by simp [qBB.j2])
 have H := HA.1
 clear HA
 simp only [qBB.j2] at H
 cases ag
 rotate_left
 ·rw [if_pos rfl] at H
  obtain rfl := Option.some.inj H
  go_wp2
  repeat (go_quiet (fail); try go_wp2)
  go_ret
  exact ⟨per, pbg⟩
 rw [if_neg Bool.false_ne_true] at H
 replace H := ifl H
 rcases H with ⟨aE, H⟩ | ⟨aE, H⟩
 ·obtain rfl := Option.some.inj H
  have a9 := cf2 aa.1
  go_wp2
  repeat (go_quiet (fail); try go_wp2)
  go_ret
  exact ⟨per, pbg⟩
 replace H := ifg H
 rcases H with ⟨aF, H⟩ | ⟨aF, H⟩
 ·obtain rfl := Option.some.inj H
  have ba := cf2 aa.1
  go_wp2
  repeat (go_quiet (fail); try go_wp2)
  go_ret
  exact ⟨per, pbg⟩
 have H' := am H
 clear H
 have bb := cf2 aa.1
 go_wp2
 repeat (go_quiet (fail); try go_wp2)
 go_roundg aW
 case measure => have := ay.1; have := aM.1; have := az.1; omega
 case rel => exact ⟨(wrap64 (ab + 1)), prs, H', ⟨by have := ay.1; have := aM.1; have := az.1; omega⟩, ⟨pbg⟩⟩

/-! ### qBC: function 95 -/
mutual
def qBC.j0 : Nat → Int → Bool → ByteArray → List (S68) → List (S68) → List (S68) → Int → Option (Int)
 | 0, _, _, _, _, _, _, _ => none
 | k + 1, x1, x15, bn, aY, aZ, a6, bo => if x15 = true then (some 1) else ((some (([aY, aZ, a6] : List (List (S68))) : List (List (S68)))).bind fun aq => (qBC.l0 k x1 aq (aq.length : Int) 0))
def qBC.l0 : Nat → Int → List (List (S68)) → Int → Int → Option (Int)
 | 0, _, _, _, _ => none
 | k + 1, x1, bv, bF, bm => if bm < bF then (if 0 ≤ bm then (if bm < (bv.length : Int) then ((qBB.f k (rd_L4 bv bm) x1).bind fun aT => (if aT = 0 then (qBC.l0 k x1 bv bF (wrap64 (bm + 1))) else (some aT))) else (none)) else (none)) else (some 0)
end
def qBC.f (k : Nat) (aG : ByteArray) (aj : List (S68)) (ak : List (S68)) (al : List (S68)) (ax : Int) (a1 : Int) : Option (Int) := if ax < 0 then (qBC.j0 k a1 true aG aj ak al ax) else (qBC.j0 k a1 (decide (ax > 9)) aG aj ak al ax)
theorem qBC.mono_l : ∀ k, M7 qBC.j0 k ∧ M4 qBC.l0 k
 | 0 => ⟨fun _ _ _ _ _ _ _ r h => by simp [qBC.j0] at h, fun _ _ _ _ r h => by simp [qBC.l0] at h⟩
 | k + 1 => by
  obtain ⟨br, bs⟩ := qBC.mono_l k
  refine ⟨?_, ?_⟩ <;> dsimp only [M4, M7] <;> intros <;> (first | unfold qBC.j0 | unfold qBC.l0) <;> repeat' first | (with_reducible first | apply br | apply bs | apply qBB.mono | apply lr | apply ln | apply li | refine lb ?_ fun _ => ?_)
theorem qBC.mono : ∀ a0 a1 a2 a3 a4 a5 k, LeO (qBC.f k a0 a1 a2 a3 a4 a5) (qBC.f (k + 1) a0 a1 a2 a3 a4 a5) := by
 intro a0 a1 a2 a3 a4 a5 k
 obtain ⟨br, bs⟩ := qBC.mono_l k
 unfold qBC.f
 repeat' first | (with_reducible first | apply br | apply bs | apply qBB.mono | apply lr | apply ln | apply li | refine lb ?_ fun _ => ?_)
theorem qBC.calls (k : Nat) (aG : ByteArray) (P0_1_ : Nat → Prop) (az : Option Addr) (aC : Nat) (aj : List (S68)) (P0_2_ : Nat → Prop) (aA : Option Addr) (aD : Nat) (ak : List (S68)) (P0_3_ : Nat → Prop) (aB : Option Addr) (aE : Nat) (al : List (S68)) (ax : Int) (a1 : Int) (r : Int) (w : World) (bj : Kd.V k68 68 w w.heap.size (fun k_ => P0_1_ k_) (.slice az aj.length aC) aj) (bk : Kd.V k68 68 w w.heap.size (fun k_ => P0_2_ k_) (.slice aA ak.length aD) ak) (bl : Kd.V k68 68 w w.heap.size (fun k_ => P0_3_ k_) (.slice aB al.length aE) al) (h : qBC.f k aG aj ak al ax a1 = some r) :
  Calls Try.prog 95 #[.agg #[.string aG, .slice az aj.length aC, .slice aA ak.length aD, .slice aB al.length aE, .int .i64 ax], .int .i64 a1] w fun e w' => e = .returned (.int .i64 r) ∧ Below w.heap.size w w' := by
 have bI := Try.underlying38
 have aO := am (show Kd.V k68 68 w w.heap.size (fun k_ => ((P0_1_ k_ ∨ P0_2_ k_ ∨ P0_3_ k_) ∨ w.heap.size ≤ k_)) (.slice az aj.length aC) aj from Kd.V_mono bj (fun k_ hk => .inl (.inl hk)))
 have aP := am (show Kd.V k68 68 w w.heap.size (fun k_ => ((P0_1_ k_ ∨ P0_2_ k_ ∨ P0_3_ k_) ∨ w.heap.size ≤ k_)) (.slice aA ak.length aD) ak from Kd.V_mono bk (fun k_ hk => .inl (.inr (.inl hk))))
 have aQ := am (show Kd.V k68 68 w w.heap.size (fun k_ => ((P0_1_ k_ ∨ P0_2_ k_ ∨ P0_3_ k_) ∨ w.heap.size ≤ k_)) (.slice aB al.length aE) al from Kd.V_mono bl (fun k_ hk => .inl (.inr (.inr hk))))
 have HB := am (Below.refl w.heap.size w)
 have H := h
 unfold qBC.f at H
 clear h
 have bp := am H
 clear H
 go_enter Try.func95, Try.ntmps95
 go_upto_region 1 with (first | ((with_reducible refine qBN (N := 2) rfl ?_); refine box_ev ?_; intro ae hg w4 hbox hb; have af := am hbox; have bc := gwl hg; have bx := bc; replace aO := vbb aO hg hb; replace aP := vbb aP hg hb; replace aQ := vbb aQ hg hb; replace HB := bsl hb; clear hb hbox hg))
 (try simp only [Act.put, List.setIfInBounds_toArray, List.set_cons_zero, List.set_cons_succ])
 go_cut [15] (fun bJ wc => ∃ (kq : Nat) (aR : Bool), bJ = .bool aR ∧ Aside0 (qBC.j0 kq a1 aR aG aj ak al ax = some r) ∧ Aside0 (kq ≤ k) ∧ Aside0 (Kd.V k68 68 wc w.heap.size (fun k_ => ((P0_1_ k_ ∨ P0_2_ k_ ∨ P0_3_ k_) ∨ w.heap.size ≤ k_) ∧ k_ ≠ ae) (.slice az aj.length aC) aj) ∧ Aside0 (Kd.V k68 68 wc w.heap.size (fun k_ => ((P0_1_ k_ ∨ P0_2_ k_ ∨ P0_3_ k_) ∨ w.heap.size ≤ k_) ∧ k_ ≠ ae) (.slice aA ak.length aD) ak) ∧ Aside0 (Kd.V k68 68 wc w.heap.size (fun k_ => ((P0_1_ k_ ∨ P0_2_ k_ ∨ P0_3_ k_) ∨ w.heap.size ≤ k_) ∧ k_ ≠ ae) (.slice aB al.length aE) al) ∧ Aside0 (wc.heap[ae]? = some (.cells #[.string aG, (.slice az aj.length aC), (.slice aA ak.length aD), (.slice aB al.length aE), .int .i64 ax] 38 (0, 0))) ∧ Aside0 (Below w.heap.size w wc))
 case first =>
  have H := bp.1
  clear bp
  replace H := ifl H
  rcases H with ⟨aL, H⟩ | ⟨aL, H⟩
  ·(first | rw [aL] | (simp only [i64_w, i32_w]; rw [aL]) | skip)
   have H' := am H
   clear H
   have bG := cf5 af.1
   go_wp2
   go_meet
   case rel => exact ⟨_, (true), prs, H', ⟨by first | omega | exact Nat.le_refl _⟩, ⟨pkv aO.1⟩, ⟨pkv aP.1⟩, ⟨pkv aQ.1⟩, ⟨pbk af.1⟩, ⟨pbg⟩⟩
  (first | rw [aL] | (simp only [i64_w, i32_w]; rw [aL]) | skip)
  have H' := am H
  clear H
  have bH := cf5 af.1
  go_wp2
  go_meet
  case rel => exact ⟨_, (decide (ax > 9)), prs, H', ⟨by first | omega | exact Nat.le_refl _⟩, ⟨pkv aO.1⟩, ⟨pkv aP.1⟩, ⟨pkv aQ.1⟩, ⟨pbk af.1⟩, ⟨pbg⟩⟩
 clear bp
 try clear c5 aL bG bH
 obtain ⟨kq, aR, rfl, HA, bz, aa, ab, ac, af, HB⟩ := hcut
 obtain _ | bu := kq
 ·exact absurd HA.1 (by simp [qBC.j0])
 have H := HA.1
 clear HA
 simp only [qBC.j0] at H
 cases aR
 rotate_left
 ·rw [if_pos rfl] at H
  obtain rfl := Option.some.inj H
  go_wp2
  go_ret
  exact ⟨per, pbg⟩
 rw [if_neg Bool.false_ne_true] at H
 obtain ⟨aq, aS⟩ : ∃ y_ : List (List (S68)), y_ = (([aj, ak, al] : List (List (S68)))) := ⟨_, rfl⟩
 replace H : (qBC.l0 bu a1 aq (aq.length : Int) 0) = some r := hrp aS H
 have a8 := am aS
 clear aS
 have H' := am H
 clear H
 have bM := cf5 af.1
 go_wp2_with (first | ((with_reducible refine qBN (N := 22) rfl ?_); refine Kd.N_lit (Kd.slice 68 k68) _ 36 ?hg (N' := 22) ?hd (xs := ([aj, ak, al] : List (List (S68)))) (inner := [.slice az aj.length aC, .slice aA ak.length aD, .slice aB al.length aE]) (ok := (fun k_ => ((P0_1_ k_ ∨ P0_2_ k_ ∨ P0_3_ k_) ∨ w.heap.size ≤ k_) ∧ k_ ≠ ae)) (okp := (fun k_ => ((P0_1_ k_ ∨ P0_2_ k_ ∨ P0_3_ k_) ∨ w.heap.size ≤ k_) ∧ k_ ≠ ae)) ?hr ?hp (fun _ hk => hk) ((show ∀ k_, wc.heap.size ≤ k_ → (fun k_ => ((P0_1_ k_ ∨ P0_2_ k_ ∨ P0_3_ k_) ∨ w.heap.size ≤ k_) ∧ k_ ≠ ae) k_ from fun k_ hk => ⟨(.inr (Nat.le_trans (qBJ pbg) hk)), Kd.freshB (g := ae) (o := .cells #[.string aG, .slice az aj.length aC, .slice aA ak.length aD, .slice aB al.length aE, .int .i64 ax] 38 (0, 0)) (by exact pbk af.1) k_ hk⟩) _ (Nat.le_refl _)) (Below.refl _ _) (Nat.le_refl _) (by simp) ?_; (case hd => rfl); (case hg => rfl); (case hr => first | (go_simp; done) | (go_simp; rfl)); (case hp => exact (Reps.one (show Kd.FK (Kd.slice 68 k68) _ _ aj [.slice az aj.length aC] from (Kd.qBW (Kd.qBT (Kd.V_mono (ok' := (fun k_ => ((P0_1_ k_ ∨ P0_2_ k_ ∨ P0_3_ k_) ∨ w.heap.size ≤ k_) ∧ k_ ≠ ae)) (aa.1) (fun k_ hk => ⟨hk.1, hk.2⟩))).2.1 (Kd.V_F (Kd.V_mono (ok' := (fun k_ => ((P0_1_ k_ ∨ P0_2_ k_ ∨ P0_3_ k_) ∨ w.heap.size ≤ k_) ∧ k_ ≠ ae)) (aa.1) (fun k_ hk => ⟨hk.1, hk.2⟩))))) (Reps.one (show Kd.FK (Kd.slice 68 k68) _ _ ak [.slice aA ak.length aD] from (Kd.qBW (Kd.qBT (Kd.V_mono (ok' := (fun k_ => ((P0_1_ k_ ∨ P0_2_ k_ ∨ P0_3_ k_) ∨ w.heap.size ≤ k_) ∧ k_ ≠ ae)) (ab.1) (fun k_ hk => ⟨hk.1, hk.2⟩))).2.1 (Kd.V_F (Kd.V_mono (ok' := (fun k_ => ((P0_1_ k_ ∨ P0_2_ k_ ∨ P0_3_ k_) ∨ w.heap.size ≤ k_) ∧ k_ ≠ ae)) (ab.1) (fun k_ hk => ⟨hk.1, hk.2⟩))))) (Reps.one (show Kd.FK (Kd.slice 68 k68) _ _ al [.slice aB al.length aE] from (Kd.qBW (Kd.qBT (Kd.V_mono (ok' := (fun k_ => ((P0_1_ k_ ∨ P0_2_ k_ ∨ P0_3_ k_) ∨ w.heap.size ≤ k_) ∧ k_ ≠ ae)) (ac.1) (fun k_ hk => ⟨hk.1, hk.2⟩))).2.1 (Kd.V_F (Kd.V_mono (ok' := (fun k_ => ((P0_1_ k_ ∨ P0_2_ k_ ∨ P0_3_ k_) ∨ w.heap.size ≤ k_) ∧ k_ ≠ ae)) (ac.1) (fun k_ hk => ⟨hk.1, hk.2⟩))))) (Reps.none _ _))))); intro bK bN aK hb hg_ hnew_; clear hg_ hnew_; (first | rw [← a8.1] at aK | (simp only [Int.reduceToNat] at aK; rw [← a8.1] at aK)); have a7 := am (Kd.N_lower aK (qBJ pbg)); replace aa := am (Kd.qBY (pkv aa.1) (Kd.N_base aK) hb); replace ab := am (Kd.qBY (pkv ab.1) (Kd.N_base aK) hb); replace ac := am (Kd.qBY (pkv ac.1) (Kd.N_base aK) hb); replace af := bbh af hb; replace HB := bst hb; clear hb aK; obtain ⟨aU, aV, bq⟩ := Kd.N_slice a7.1; subst bq))
 go_loopg [24] bu (fun kq bL w' => ∃ (ag : Int), bL = .int .i64 ag ∧ Aside0 (qBC.l0 kq a1 aq (aq.length : Int) ag = some r) ∧ Aside0 (kq ≤ bu) ∧ Aside0 (Kd.N (Kd.slice 68 k68) 36 w' w.heap.size (fun k_ => ((P0_1_ k_ ∨ P0_2_ k_ ∨ P0_3_ k_) ∨ w.heap.size ≤ k_) ∧ k_ ≠ ae) (.slice aU aq.length aV) aq) ∧ Aside0 (Kd.V k68 68 w' w.heap.size (fun k_ => ((P0_1_ k_ ∨ P0_2_ k_ ∨ P0_3_ k_) ∨ w.heap.size ≤ k_) ∧ some k_ ≠ ((.slice aU aq.length aV) : Value).ownBlock ∧ k_ ≠ ae) (.slice az aj.length aC) aj) ∧ Aside0 (Kd.V k68 68 w' w.heap.size (fun k_ => ((P0_1_ k_ ∨ P0_2_ k_ ∨ P0_3_ k_) ∨ w.heap.size ≤ k_) ∧ some k_ ≠ ((.slice aU aq.length aV) : Value).ownBlock ∧ k_ ≠ ae) (.slice aA ak.length aD) ak) ∧ Aside0 (Kd.V k68 68 w' w.heap.size (fun k_ => ((P0_1_ k_ ∨ P0_2_ k_ ∨ P0_3_ k_) ∨ w.heap.size ≤ k_) ∧ some k_ ≠ ((.slice aU aq.length aV) : Value).ownBlock ∧ k_ ≠ ae) (.slice aB al.length aE) al) ∧ Aside0 (w'.heap[ae]? = some (.cells #[.string aG, (.slice az aj.length aC), (.slice aA ak.length aD), (.slice aB al.length aE), .int .i64 ax] 38 (0, 0))) ∧ Aside0 (Below w.heap.size w w'))
 case atStart => exact ⟨(0), prs, H', ⟨Nat.le_refl _⟩, ⟨pkn a7.1⟩, ⟨vmo aa.1 (fun _ hk => ⟨hk.1.1, ⟨hk.2, hk.1.2⟩⟩)⟩, ⟨vmo ab.1 (fun _ hk => ⟨hk.1.1, ⟨hk.2, hk.1.2⟩⟩)⟩, ⟨vmo ac.1 (fun _ hk => ⟨hk.1.1, ⟨hk.2, hk.1.2⟩⟩)⟩, ⟨pbk af.1⟩, ⟨pbg⟩⟩
 clear H'
 try clear c5 aL bG bH bM
 obtain ⟨ag, rfl, HA, bA, ar, aa, ab, ac, af, HB⟩ := hrel
 obtain _ | k2 := gk
 ·exact absurd HA.1 (by simp [qBC.l0])
 have H := HA.1
 clear HA
 simp only [qBC.l0] at H
 replace H := ifl H
 rcases H with ⟨bf, H⟩ | ⟨bf, H⟩
 rotate_left
 ·obtain rfl := Option.some.inj H
  go_wp2
  go_ret
  exact ⟨per, pbg⟩
 replace H := ifd H
 obtain ⟨bC, H⟩ := H
 replace H := ifd H
 obtain ⟨bE, H⟩ := H
 replace H := bnd H
 obtain ⟨aT, bw, H⟩ := H
 (try dsimp only at H)
 replace H := ife H
 rcases H with ⟨bg, bh, H⟩ | ⟨bg, bh, H⟩
 rotate_left
 ·obtain rfl := Option.some.inj H
  have aI : 0 ≤ (ag : Int) := dq
  have aJ : ag < (aq.length : Int) := dq
  obtain ⟨bd, a9, ba, bb, aH, aw, av⟩ := at_L4 (Kd.qBS ar.1).2.2 ag aI aJ
  cases bb
  obtain ⟨bi, aN, aM, ay⟩ := Kd.N_get ar.1 [] ag aI (by first | exact aJ | exact dq | (have e_ := (Kd.qBS ar.1).1; omega))
  obtain ⟨aW, aX, rfl, ap, ao⟩ := Kd.qBV aM
  have ai := ay 0 _ rfl
  rw [Nat.add_zero, show ((Kd.slice 68 k68)).sz = 1 from rfl, Nat.mul_one] at ai
  replace ai := Option.some.inj (ai.symm.trans aH)
  injection ai with hva_ hvn_ hvc_
  rw [hva_] at ao
  rw [hvc_] at ap
  have au := am (show Kd.V k68 68 _ w.heap.size _ _ (rd_L4 aq ag) from Kd.V_mk ap ao)
  clear hva_ hvn_ hvc_ ao ap ay aN
  have ah := am av
  have aF := am aw
  clear av aw
  replace aI := eq_true aI
  replace aJ := eq_true aJ
  go_wp2_with (first | ((with_reducible refine qBO (f := 107) rfl ?_); refine gC 30 Try.func107 _ (qBB.calls k2 _ _ (rd_L4 aq ag) a1 aT _ ?side1 ?side2 bw.1) ?_; (case side1 => exact csd ah.1); (case side2 => exact aF.1); rintro e bP ⟨rfl, hb⟩; refine ⟨_, rfl, ?_⟩; replace ar := nbw ar hb; replace aa := vbw aa hb; replace ab := vbw ab hb; replace ac := vbw ac hb; replace au := vbw au hb; replace af := bbh af hb; replace ah := cbb ah hb; replace HB := bst hb; (try clear hb)))
  go_ret
  exact ⟨per, pbg⟩
 have H' := am H
 clear H
 have aI : 0 ≤ (ag : Int) := dq
 have aJ : ag < (aq.length : Int) := dq
 obtain ⟨bd, a9, ba, bb, aH, aw, av⟩ := at_L4 (Kd.qBS ar.1).2.2 ag aI aJ
 cases bb
 obtain ⟨bi, aN, aM, ay⟩ := Kd.N_get ar.1 [] ag aI (by first | exact aJ | exact dq | (have e_ := (Kd.qBS ar.1).1; omega))
 obtain ⟨aW, aX, rfl, ap, ao⟩ := Kd.qBV aM
 have ai := ay 0 _ rfl
 rw [Nat.add_zero, show ((Kd.slice 68 k68)).sz = 1 from rfl, Nat.mul_one] at ai
 replace ai := Option.some.inj (ai.symm.trans aH)
 injection ai with hva_ hvn_ hvc_
 rw [hva_] at ao
 rw [hvc_] at ap
 have au := am (show Kd.V k68 68 _ w.heap.size _ _ (rd_L4 aq ag) from Kd.V_mk ap ao)
 clear hva_ hvn_ hvc_ ao ap ay aN
 have ah := am av
 have aF := am aw
 clear av aw
 replace aI := eq_true aI
 replace aJ := eq_true aJ
 go_wp2_with (first | ((with_reducible refine qBO (f := 107) rfl ?_); refine gC 30 Try.func107 _ (qBB.calls k2 _ _ (rd_L4 aq ag) a1 aT _ ?side1 ?side2 bw.1) ?_; (case side1 => exact csd ah.1); (case side2 => exact aF.1); rintro e bO ⟨rfl, hb⟩; refine ⟨_, rfl, ?_⟩; replace ar := nbw ar hb; replace aa := vbw aa hb; replace ab := vbw ab hb; replace ac := vbw ac hb; replace au := vbw au hb; replace af := bbh af hb; replace ah := cbb ah hb; replace HB := bst hb; (try clear hb)))
 go_roundg k2
 case measure => have := bz.1; have := bA.1; omega
 case rel => exact ⟨(wrap64 (ag + 1)), prs, H', ⟨by have := bz.1; have := bA.1; omega⟩, ⟨pkn ar.1⟩, ⟨pkv aa.1⟩, ⟨pkv ab.1⟩, ⟨pkv ac.1⟩, ⟨pbk af.1⟩, ⟨pbg⟩⟩

/-! ### qAN: function 69 -/
def qAN.l0 : Nat → List Int → Int → Int → Option (Bool)
 | 0, _, _, _ => none
 | k + 1, x11, x12, x13 => if x13 < x12 then (if 0 ≤ x13 then (if x13 < (x11.length : Int) then (if (rd x11 x13) = (-1) then (qAN.l0 k x11 x12 (wrap64 (x13 + 1))) else ((qBA.f k (([rd x11 x13] : List Int)) 1).bind fun aj => (if aj = true then (qAN.l0 k x11 x12 (wrap64 (x13 + 1))) else (some false)))) else (none)) else (none)) else (some true)
def qAN.f (k : Nat) (l0 : List Int) (a1 : Int) : Option (Bool) := if (l0.length : Int) = a1 then (qAN.l0 k l0 (l0.length : Int) 0) else (some false)
theorem qAN.mono_l : ∀ k, M3 qAN.l0 k
 | 0 => fun _ _ _ r h => by simp [qAN.l0] at h
 | k + 1 => by
  have aB := qAN.mono_l k
  ·intro y0 y1 y2
   unfold qAN.l0
   repeat' first | (with_reducible first | apply aB | apply qBA.mono | apply lr | apply ln | apply li | refine lb ?_ fun _ => ?_)
theorem qAN.mono : ∀ a0 a1 k, LeO (qAN.f k a0 a1) (qAN.f (k + 1) a0 a1) := by
 intro a0 a1 k
 have aB := qAN.mono_l k
 unfold qAN.f
 repeat' first | (with_reducible first | apply aB | apply qBA.mono | apply lr | apply ln | apply li | refine lb ?_ fun _ => ?_)
theorem qAN.calls (k : Nat) (A0 : Option Addr) (c0 : Nat) (l0 : List Int) (a1 : Int) (r : Bool) (w : World) (aD : Kd.C (Kd.int .i64) w A0 l0.length l0) (hc0 : l0.length ≤ c0) (h : qAN.f k l0 a1 = some r) :
  Calls Try.prog 69 #[.slice A0 l0.length c0, .int .i64 a1] w fun e w' => e = .returned (.bool r) ∧ Below w.heap.size w w' := by
 have av := am aD
 have aL := am hc0
 clear aD hc0
 have HB := am (Below.refl w.heap.size w)
 have H := h
 unfold qAN.f at H
 clear h
 replace H := ife H
 rcases H with ⟨ao, ap, H⟩ | ⟨ao, ap, H⟩
 rotate_left
 ·obtain rfl := Option.some.inj H
  go_enter Try.func69, Try.ntmps69
  go_wp2
  go_ret
  exact ⟨per, pbg⟩
 have H' := am H
 clear H
 go_enter Try.func69, Try.ntmps69
 go_wp2
 go_loopg [13] k (fun kq aK w' => ∃ (aa : Int), aK = .int .i64 aa ∧ Aside0 (qAN.l0 kq l0 (l0.length : Int) aa = some r) ∧ Aside0 (kq ≤ k) ∧ Aside0 (Below w.heap.size w w'))
 case atStart => exact ⟨(0), prs, H', ⟨Nat.le_refl _⟩, ⟨pbg⟩⟩
 clear H'
 try clear ao ap
 obtain ⟨aa, rfl, HA, au, HB⟩ := hrel
 obtain _ | k1 := gk
 ·exact absurd HA.1 (by simp [qAN.l0])
 have H := HA.1
 clear HA
 simp only [qAN.l0] at H
 replace H := ifl H
 rcases H with ⟨aw, H⟩ | ⟨aw, H⟩
 rotate_left
 ·obtain rfl := Option.some.inj H
  go_wp2
  go_ret
  exact ⟨per, pbg⟩
 replace H := ifd H
 obtain ⟨aG, H⟩ := H
 replace H := ifd H
 obtain ⟨aH, H⟩ := H
 replace H := ife H
 rcases H with ⟨ax, ay, H⟩ | ⟨ax, ay, H⟩
 ·have H' := am H
  clear H
  obtain ⟨aq, ar, ak, af, ae⟩ := bint av.1 HB.1 aa
  cases af
  go_wp2
  go_roundg k1
  case measure => have := au.1; omega
  case rel => exact ⟨(wrap64 (aa + 1)), prs, H', ⟨by have := au.1; omega⟩, ⟨pbg⟩⟩
 obtain ⟨al, ai⟩ : ∃ y_ : List Int, y_ = (([rd l0 aa] : List Int)) := ⟨_, rfl⟩
 replace H : ((qBA.f k1 al 1).bind fun aj => (if aj = true then (qAN.l0 k1 l0 (l0.length : Int) (wrap64 (aa + 1))) else (some false))) = some r := hrp ai H
 have ac := am ai
 clear ai
 replace H := bnd H
 obtain ⟨aj, A8, H⟩ := H
 (try dsimp only at H)
 cases aj
 ·rw [if_neg Bool.false_ne_true] at H
  obtain rfl := Option.some.inj H
  obtain ⟨aq, ar, ak, af, ae⟩ := bint av.1 HB.1 aa
  cases af
  go_wp2_with (first | ((with_reducible refine qBN (N := 21) rfl ?_); (try (refine qBP (by rfl) ?_; dsimp only)); refine Kd.R_lit (Kd.int .i64) _ 3 ?hg (N := 21) ?hd (xs := ([rd l0 aa] : List Int)) (inner := [.int .i64 (rd l0 aa)]) (ok := fun _ => True) (okp := fun _ => True) ?hr ?hp (fun _ hk => hk) trivial (Below.refl _ _) (Nat.le_refl _) (by simp) ?_; (case hd => rfl); (case hg => rfl); (case hr => first | (go_simp; done) | (go_simp; rfl)); (case hp => exact (Reps.one (show Kd.M (Kd.int .i64) _ _ _ (rd l0 aa) [.int .i64 (rd l0 aa)] from rfl) (Reps.none _ _))); intro aC aN ah hb hg_ hnew_; clear hg_ hnew_; (first | rw [← ac.1] at ah | (simp only [Int.reduceToNat] at ah; rw [← ac.1] at ah)); have ab := am (Kd.qCH ah (qBJ pbl)); replace HB := bsl hb; clear hb ah; obtain ⟨aF, aJ, aA⟩ := Kd.R_slice ab.1; subst aA) | (go_at_call 101; (with_reducible refine (qBA.calls k1 _ _ al 1 false _ ?side1 ?side2 A8.1).mono ?_); (case side1 => exact csd ((Kd.qBR ab.1).2.2)); (case side2 => exact (Kd.qBR ab.1).2.1); rintro e w' ⟨rfl, ⟨nd, rfl⟩⟩))
  go_ret
  exact ⟨per, pbg⟩
 rw [if_pos rfl] at H
 have H' := am H
 clear H
 obtain ⟨aq, ar, ak, af, ae⟩ := bint av.1 HB.1 aa
 cases af
 go_wp2_with (first | ((with_reducible refine qBN (N := 21) rfl ?_); (try (refine qBP (by rfl) ?_; dsimp only)); refine Kd.R_lit (Kd.int .i64) _ 3 ?hg (N := 21) ?hd (xs := ([rd l0 aa] : List Int)) (inner := [.int .i64 (rd l0 aa)]) (ok := fun _ => True) (okp := fun _ => True) ?hr ?hp (fun _ hk => hk) trivial (Below.refl _ _) (Nat.le_refl _) (by simp) ?_; (case hd => rfl); (case hg => rfl); (case hr => first | (go_simp; done) | (go_simp; rfl)); (case hp => exact (Reps.one (show Kd.M (Kd.int .i64) _ _ _ (rd l0 aa) [.int .i64 (rd l0 aa)] from rfl) (Reps.none _ _))); intro aC aM ag hb hg_ hnew_; clear hg_ hnew_; (first | rw [← ac.1] at ag | (simp only [Int.reduceToNat] at ag; rw [← ac.1] at ag)); have ab := am (Kd.qCH ag (qBJ pbl)); replace HB := bsl hb; clear hb ag; obtain ⟨aE, aI, az⟩ := Kd.R_slice ab.1; subst az) | (go_at_call 101; (with_reducible refine (qBA.calls k1 _ _ al 1 true _ ?side1 ?side2 A8.1).mono ?_); (case side1 => exact csd ((Kd.qBR ab.1).2.2)); (case side2 => exact (Kd.qBR ab.1).2.1); rintro e w' ⟨rfl, ⟨nd, rfl⟩⟩))
 go_roundg k1
 case measure => have := au.1; omega
 case rel => exact ⟨(wrap64 (aa + 1)), prs, H', ⟨by have := au.1; omega⟩, ⟨pbg⟩⟩

/-! ### qAF: function 83 -/
def qAF.l0 : Nat → List Int → List (S68) → Int → Int → Option (Bool)
 | 0, _, _, _, _ => none
 | k + 1, x1, x8, x9, x10 => if x10 < x9 then (if 0 ≤ x10 then (if x10 < (x8.length : Int) then (if 0 ≤ ((rd_T68 x8 x10).f0) then (if ((rd_T68 x8 x10).f0) < (x1.length : Int) then (if (rd x1 ((rd_T68 x8 x10).f0)) = (-1) then (qAF.l0 k x1 x8 x9 (wrap64 (x10 + 1))) else (if (rd x1 ((rd_T68 x8 x10).f0)) < ((rd_T68 x8 x10).f1) then (some false) else (qAF.l0 k x1 x8 x9 (wrap64 (x10 + 1))))) else (none)) else (none)) else (none)) else (none)) else (some true)
def qAF.f (k : Nat) (aH : ByteArray) (af : List (S68)) (aw : List (S68)) (ax : List (S68)) (aI : Int) (l1 : List Int) : Option (Bool) := qAF.l0 k l1 af (af.length : Int) 0
theorem qAF.mono_l : ∀ k, M4 qAF.l0 k
 | 0 => fun _ _ _ _ r h => by simp [qAF.l0] at h
 | k + 1 => by
  have bg := qAF.mono_l k
  ·intro y0 y1 y2 y3
   unfold qAF.l0
   repeat' first | (with_reducible first | apply bg | apply lr | apply ln | apply li | refine lb ?_ fun _ => ?_)
theorem qAF.mono : ∀ a0 a1 a2 a3 a4 a5 k, LeO (qAF.f k a0 a1 a2 a3 a4 a5) (qAF.f (k + 1) a0 a1 a2 a3 a4 a5) := by
 intro a0 a1 a2 a3 a4 a5 k
 have bg := qAF.mono_l k
 unfold qAF.f
 repeat' first | (with_reducible first | apply bg | apply lr | apply ln | apply li | refine lb ?_ fun _ => ?_)
theorem qAF.calls (k : Nat) (aH : ByteArray) (aS : Option Addr) (aV : Nat) (af : List (S68)) (aT : Option Addr) (aW : Nat) (aw : List (S68)) (aU : Option Addr) (aX : Nat) (ax : List (S68)) (aI : Int) (A1 : Option Addr) (c1 : Nat) (l1 : List Int) (r : Bool) (w : World) (aP : Kd.C k68 w aS af.length af) (aM : af.length ≤ aV) (aQ : Kd.C k68 w aT aw.length aw) (aN : aw.length ≤ aW) (aR : Kd.C k68 w aU ax.length ax) (aO : ax.length ≤ aX) (hr1 : Kd.C (Kd.int .i64) w A1 l1.length l1) (bn : l1.length ≤ c1) (h : qAF.f k aH af aw ax aI l1 = some r) :
  Calls Try.prog 83 #[.agg #[.string aH, .slice aS af.length aV, .slice aT aw.length aW, .slice aU ax.length aX, .int .i64 aI], .slice A1 l1.length c1] w fun e w' => e = .returned (.bool r) ∧ Below w.heap.size w w' := by
 have bC := Try.underlying38
 have bD := Try.underlying68
 have aD := am aP
 have bi := am aM
 clear aP aM
 have bl := am aQ
 have bj := am aN
 clear aQ aN
 have bm := am aR
 have bk := am aO
 clear aR aO
 have a6 := am hr1
 have bK := am bn
 clear hr1 bn
 have HB := am (Below.refl w.heap.size w)
 have H := h
 unfold qAF.f at H
 clear h
 have H' := am H
 clear H
 go_enter Try.func83, Try.ntmps83
 iterate 4 (try go_wp2_with (first | ((with_reducible refine qBN (N := 2) rfl ?_); refine box_ev ?_; intro ba hg w3 hbox hb; have aj := am hbox; have aZ := gwl hg; have bh := aZ; replace HB := bsl hb; clear hb hbox hg; have bJ := cf5 aj.1)); try go_quiet (fail))
 go_loopg [10] k (fun kq bE w' => ∃ (ab : Int), bE = .int .i64 ab ∧ Aside0 (qAF.l0 kq l1 af (af.length : Int) ab = some r) ∧ Aside0 (kq ≤ k) ∧ Aside0 (w'.heap[ba]? = some (.cells #[.string aH, (.slice aS af.length aV), (.slice aT aw.length aW), (.slice aU ax.length aX), .int .i64 aI] 38 (0, 0))) ∧ Aside0 (Below w.heap.size w w'))
 case atStart => exact ⟨(0), prs, H', ⟨Nat.le_refl _⟩, ⟨pbk aj.1⟩, ⟨pbg⟩⟩
 clear H'
 try clear c1 bJ
 obtain ⟨ab, rfl, HA, bd, aj, HB⟩ := hrel
 obtain _ | k1 := gk
 ·exact absurd HA.1 (by simp [qAF.l0])
 have H := HA.1
 clear HA
 simp only [qAF.l0] at H
 replace H := ifl H
 rcases H with ⟨bf, H⟩ | ⟨bf, H⟩
 rotate_left
 ·obtain rfl := Option.some.inj H
  go_wp2
  repeat (go_quiet (fail); try go_wp2)
  go_ret
  exact ⟨per, pbg⟩
 replace H := ifd H
 obtain ⟨bx, H⟩ := H
 replace H := ifd H
 obtain ⟨bz, H⟩ := H
 replace H := ifd H
 obtain ⟨bA, H⟩ := H
 replace H := ifd H
 obtain ⟨bB, H⟩ := H
 replace H := ife H
 rcases H with ⟨a7, a8, H⟩ | ⟨a7, a8, H⟩
 ·have H' := am H
  clear H
  obtain ⟨bb, bc, aL, aF, aA, aB⟩ := bT68 aD.1 HB.1 ab
  cases aF
  iterate 4 (try go_wp2_with (first | ((with_reducible refine qBN (N := 6) rfl ?_); refine box_ev ?_; intro ae hg bF hbox hb; have av := am hbox; have ao := gwb hg; have aK := ao; have ai := nlt hg aj; have aq := ngt hg aj; replace aj := bbh aj hb; replace HB := bst hb; clear hb hbox hg; have bo := aq.1; have br := ai.1; have bG := cf2 av.1; have ar : 0 ≤ (((rd_T68 af ab).f0) : Int) := dq; have au : ((rd_T68 af ab).f0) < (l1.length : Int) := dq; obtain ⟨ap, aG, aa⟩ := Kd.at_int a6.1 ((rd_T68 af ab).f0) ar au; cases aG; have ag : ap.block ≠ ae := Nat.ne_of_lt (Nat.lt_of_lt_of_le (by have := World.block_lt_of_cell? _ _ aa; first | rwa [qBU] at this | exact this) ao.1); have ah : ap.block ≠ ae := Nat.ne_of_lt (Nat.lt_of_lt_of_le (by have := World.block_lt_of_cell? _ _ aa; first | rwa [qBU] at this | exact this) ao.1); replace aa := cbl HB.1 aa; replace aa := (qCK (p := ⟨ae, 0, none⟩) (by first | (rw [qBU]; exact ag) | (show (Addr.add _ _).block ≠ _; rw [qBU]; exact ag) | exact ag) (.int .i64 ((rd_T68 af ab).f0))).trans aa; replace aa := (qCK (p := ⟨ae, 1, none⟩) (by first | (rw [qBU]; exact ah) | (show (Addr.add _ _).block ≠ _; rw [qBU]; exact ah) | exact ah) (.int .i64 ((rd_T68 af ab).f1))).trans aa; (try have aC := fun (n_ : Nat) => (show ((((bF.drewN n_).setCell ⟨ae, 0, none⟩ (.int .i64 ((rd_T68 af ab).f0))).setCell ⟨ae, 1, none⟩ (.int .i64 ((rd_T68 af ab).f1)))).cell? _ = some _ from aa)); clear ag; clear ah; replace ar := eq_true ar; replace au := eq_true au)); try go_quiet (fail))
  go_roundg k1
  case measure => have := bd.1; omega
  case rel => exact ⟨(wrap64 (ab + 1)), prs, H', ⟨by have := bd.1; omega⟩, ⟨by (with_reducible repeat (first | refine qBK ?_ _ | refine qBM ?_ | refine qBL ?_ _)); refine bf2 ?_ ai.1; exact pbk aj.1⟩, ⟨pbg⟩⟩
 replace H := ifl H
 rcases H with ⟨a9, H⟩ | ⟨a9, H⟩
 ·obtain rfl := Option.some.inj H
  obtain ⟨bb, bc, aL, aF, aA, aB⟩ := bT68 aD.1 HB.1 ab
  cases aF
  iterate 4 (try go_wp2_with (first | ((with_reducible refine qBN (N := 6) rfl ?_); refine box_ev ?_; intro ae hg bv hbox hb; have av := am hbox; have ao := gwb hg; have aK := ao; have ai := nlt hg aj; have aq := ngt hg aj; replace aj := bbh aj hb; replace HB := bst hb; clear hb hbox hg; have bp := aq.1; have bs := ai.1; have bH := cf2 av.1; have ar : 0 ≤ (((rd_T68 af ab).f0) : Int) := dq; have au : ((rd_T68 af ab).f0) < (l1.length : Int) := dq; obtain ⟨ap, aG, aa⟩ := Kd.at_int a6.1 ((rd_T68 af ab).f0) ar au; cases aG; have ag : ap.block ≠ ae := Nat.ne_of_lt (Nat.lt_of_lt_of_le (by have := World.block_lt_of_cell? _ _ aa; first | rwa [qBU] at this | exact this) ao.1); have ah : ap.block ≠ ae := Nat.ne_of_lt (Nat.lt_of_lt_of_le (by have := World.block_lt_of_cell? _ _ aa; first | rwa [qBU] at this | exact this) ao.1); replace aa := cbl HB.1 aa; replace aa := (qCK (p := ⟨ae, 0, none⟩) (by first | (rw [qBU]; exact ag) | (show (Addr.add _ _).block ≠ _; rw [qBU]; exact ag) | exact ag) (.int .i64 ((rd_T68 af ab).f0))).trans aa; replace aa := (qCK (p := ⟨ae, 1, none⟩) (by first | (rw [qBU]; exact ah) | (show (Addr.add _ _).block ≠ _; rw [qBU]; exact ah) | exact ah) (.int .i64 ((rd_T68 af ab).f1))).trans aa; (try have aC := fun (n_ : Nat) => (show ((((bv.drewN n_).setCell ⟨ae, 0, none⟩ (.int .i64 ((rd_T68 af ab).f0))).setCell ⟨ae, 1, none⟩ (.int .i64 ((rd_T68 af ab).f1)))).cell? _ = some _ from aa)); clear ag; clear ah; replace ar := eq_true ar; replace au := eq_true au; have ay : 0 ≤ (((rd_T68 af ab).f0) : Int) := dq; have az : ((rd_T68 af ab).f0) < (l1.length : Int) := dq; obtain ⟨aE, aY, ac⟩ := Kd.at_int a6.1 ((rd_T68 af ab).f0) ay az; obtain rfl : ap = aE := (by injection aY); have ak : ap.block ≠ ae := Nat.ne_of_lt (Nat.lt_of_lt_of_le (by have := World.block_lt_of_cell? _ _ ac; first | rwa [qBU] at this | exact this) ao.1); have al : ap.block ≠ ae := Nat.ne_of_lt (Nat.lt_of_lt_of_le (by have := World.block_lt_of_cell? _ _ ac; first | rwa [qBU] at this | exact this) ao.1); replace ac := cbl HB.1 ac; replace ac := (qCK (p := ⟨ae, 0, none⟩) (by first | (rw [qBU]; exact ak) | (show (Addr.add _ _).block ≠ _; rw [qBU]; exact ak) | exact ak) (.int .i64 ((rd_T68 af ab).f0))).trans ac; replace ac := (qCK (p := ⟨ae, 1, none⟩) (by first | (rw [qBU]; exact al) | (show (Addr.add _ _).block ≠ _; rw [qBU]; exact al) | exact al) (.int .i64 ((rd_T68 af ab).f1))).trans ac; (try have aJ := fun (n_ : Nat) => (show ((((bv.drewN n_).setCell ⟨ae, 0, none⟩ (.int .i64 ((rd_T68 af ab).f0))).setCell ⟨ae, 1, none⟩ (.int .i64 ((rd_T68 af ab).f1)))).cell? _ = some _ from ac)); clear ak; clear al; replace ay := eq_true ay; replace az := eq_true az)); try go_quiet (fail))
  go_ret
  exact ⟨per, pbg⟩
 have H' := am H
 clear H
 obtain ⟨bb, bc, aL, aF, aA, aB⟩ := bT68 aD.1 HB.1 ab
 cases aF
 iterate 4 (try go_wp2_with (first | ((with_reducible refine qBN (N := 6) rfl ?_); refine box_ev ?_; intro ae hg bw hbox hb; have av := am hbox; have ao := gwb hg; have aK := ao; have ai := nlt hg aj; have aq := ngt hg aj; replace aj := bbh aj hb; replace HB := bst hb; clear hb hbox hg; have bq := aq.1; have bu := ai.1; have bI := cf2 av.1; have ar : 0 ≤ (((rd_T68 af ab).f0) : Int) := dq; have au : ((rd_T68 af ab).f0) < (l1.length : Int) := dq; obtain ⟨ap, aG, aa⟩ := Kd.at_int a6.1 ((rd_T68 af ab).f0) ar au; cases aG; have ag : ap.block ≠ ae := Nat.ne_of_lt (Nat.lt_of_lt_of_le (by have := World.block_lt_of_cell? _ _ aa; first | rwa [qBU] at this | exact this) ao.1); have ah : ap.block ≠ ae := Nat.ne_of_lt (Nat.lt_of_lt_of_le (by have := World.block_lt_of_cell? _ _ aa; first | rwa [qBU] at this | exact this) ao.1); replace aa := cbl HB.1 aa; replace aa := (qCK (p := ⟨ae, 0, none⟩) (by first | (rw [qBU]; exact ag) | (show (Addr.add _ _).block ≠ _; rw [qBU]; exact ag) | exact ag) (.int .i64 ((rd_T68 af ab).f0))).trans aa; replace aa := (qCK (p := ⟨ae, 1, none⟩) (by first | (rw [qBU]; exact ah) | (show (Addr.add _ _).block ≠ _; rw [qBU]; exact ah) | exact ah) (.int .i64 ((rd_T68 af ab).f1))).trans aa; (try have aC := fun (n_ : Nat) => (show ((((bw.drewN n_).setCell ⟨ae, 0, none⟩ (.int .i64 ((rd_T68 af ab).f0))).setCell ⟨ae, 1, none⟩ (.int .i64 ((rd_T68 af ab).f1)))).cell? _ = some _ from aa)); clear ag; clear ah; replace ar := eq_true ar; replace au := eq_true au; have ay : 0 ≤ (((rd_T68 af ab).f0) : Int) := dq; have az : ((rd_T68 af ab).f0) < (l1.length : Int) := dq; obtain ⟨aE, aY, ac⟩ := Kd.at_int a6.1 ((rd_T68 af ab).f0) ay az; obtain rfl : ap = aE := (by injection aY); have ak : ap.block ≠ ae := Nat.ne_of_lt (Nat.lt_of_lt_of_le (by have := World.block_lt_of_cell? _ _ ac; first | rwa [qBU] at this | exact this) ao.1); have al : ap.block ≠ ae := Nat.ne_of_lt (Nat.lt_of_lt_of_le (by have := World.block_lt_of_cell? _ _ ac; first | rwa [qBU] at this | exact this) ao.1); replace ac := cbl HB.1 ac; replace ac := (qCK (p := ⟨ae, 0, none⟩) (by first | (rw [qBU]; exact ak) | (show (Addr.add _ _).block ≠ _; rw [qBU]; exact ak) | exact ak) (.int .i64 ((rd_T68 af ab).f0))).trans ac; replace ac := (qCK (p := ⟨ae, 1, none⟩) (by first | (rw [qBU]; exact al) | (show (Addr.add _ _).block ≠ _; rw [qBU]; exact al) | exact al) (.int .i64 ((rd_T68 af ab).f1))).trans ac; (try have aJ := fun (n_ : Nat) => (show ((((bw.drewN n_).setCell ⟨ae, 0, none⟩ (.int .i64 ((rd_T68 af ab).f0))).setCell ⟨ae, 1, none⟩ (.int .i64 ((rd_T68 af ab).f1)))).cell? _ = some _ from ac)); clear ak; clear al; replace ay := eq_true ay; replace az := eq_true az)); try go_quiet (fail))
 go_roundg k1
 case measure => have := bd.1; omega
 case rel => exact ⟨(wrap64 (ab + 1)), prs, H', ⟨by have := bd.1; omega⟩, ⟨by (with_reducible repeat (first | refine qBK ?_ _ | refine qBM ?_ | refine qBL ?_ _)); refine bf2 ?_ ai.1; exact pbk aj.1⟩, ⟨pbg⟩⟩

/-! ### omega_rank: function 99 -/
def omega_rank.f (a0 : Int) : Option (Int) := if a0 = (-1) then (some 1048577) else (some a0)
theorem omega_rank.calls (a0 : Int) (r : Int) (w : World) (h : omega_rank.f a0 = some r) :
  Calls Try.prog 99 #[.int .i64 a0] w fun e w' => e = .returned (.int .i64 r) ∧ Drawn0 w w' := by
 have H := h
 unfold omega_rank.f at H
 clear h
 replace H := ife H
 rcases H with ⟨aa, ab, H⟩ | ⟨aa, ab, H⟩
 rotate_left
 ·obtain rfl := Option.some.inj H
  go_enter Try.func99, Try.ntmps99
  go_wp2
  go_ret
  exact ⟨prs, pdr⟩
 obtain rfl := Option.some.inj H
 go_enter Try.func99, Try.ntmps99
 go_wp2
 go_ret
 exact ⟨prs, pdr⟩

/-! ### qAO: function 73 -/
def qAO.l0 : Nat → List Int → List Int → Int → Int → Option (List Int)
 | 0, _, _, _, _ => none
 | k + 1, x3, x9, x10, x11 => if x11 < x10 then (if 0 ≤ x11 then (if x11 < (x9.length : Int) then ((omega_rank.f (rd x9 x11)).bind fun ae => (if x11 < (x3.length : Int) then (qAO.l0 k (x3.set (x11 : Int).toNat ae) x9 x10 (wrap64 (x11 + 1))) else (none))) else (none)) else (none)) else (some x3)
def qAO.f (k : Nat) (l0 : List Int) : Option (List Int) := if 0 ≤ (l0.length : Int) then (if ((l0.length : Int) : Int).toNat ≤ 35184372088832 then (qAO.l0 k (List.replicate ((l0.length : Int) : Int).toNat 0) l0 (l0.length : Int) 0) else (none)) else (none)
theorem qAO.mono_l : ∀ k, M4 qAO.l0 k
 | 0 => fun _ _ _ _ r h => by simp [qAO.l0] at h
 | k + 1 => by
  have aJ := qAO.mono_l k
  ·intro y0 y1 y2 y3
   unfold qAO.l0
   repeat' first | (with_reducible first | apply aJ | apply lr | apply ln | apply li | refine lb ?_ fun _ => ?_)
theorem qAO.mono : ∀ a0 k, LeO (qAO.f k a0) (qAO.f (k + 1) a0) := by
 intro a0 k
 have aJ := qAO.mono_l k
 unfold qAO.f
 repeat' first | (with_reducible first | apply aJ | apply lr | apply ln | apply li | refine lb ?_ fun _ => ?_)
theorem qAO.calls (k : Nat) (A0 : Option Addr) (c0 : Nat) (l0 : List Int) (r : List Int) (w : World) (aQ : Kd.C (Kd.int .i64) w A0 l0.length l0) (hc0 : l0.length ≤ c0) (h : qAO.f k l0 = some r) :
  Calls Try.prog 73 #[.slice A0 l0.length c0] w fun e w' => ∃ v0_ : Value, e = .returned (v0_) ∧ Kd.R (Kd.int .i64) 3 w' w.heap.size (fun _ => True) v0_ r ∧ Below w.heap.size w w' := by
 have aS := am aQ
 have aZ := am hc0
 clear aQ hc0
 have HB := am (Below.refl w.heap.size w)
 have H := h
 unfold qAO.f at H
 clear h
 replace H := ifp H
 obtain ⟨c2, H⟩ := H
 have az := eq_true c2
 have aA : decide (0 ≤ (l0.length : Int)) = true := decide_eq_true c2
 clear c2
 replace H := ifp H
 obtain ⟨c3, H⟩ := H
 have aB := eq_true c3
 have aC : decide (((l0.length : Int) : Int).toNat ≤ 35184372088832) = true := decide_eq_true c3
 clear c3
 obtain ⟨aw, af⟩ : ∃ y_ : List Int, y_ = (List.replicate ((l0.length : Int) : Int).toNat 0) := ⟨_, rfl⟩
 replace H : (qAO.l0 k aw l0 (l0.length : Int) 0) = some r := hrp af H
 have ah := am af
 clear af
 have H' := am H
 clear H
 go_enter Try.func73, Try.ntmps73
 go_wp2_with (first | ((with_reducible refine qBN (N := 8) rfl ?_); refine Kd.R_make (Kd.int .i64) _ 3 rfl (N := 8) rfl 39 _ _ rfl (l0.length : Int) rfl rfl Try.underlying39 (.int .i64 0) 8 info3 rfl (by decide) (by omega) 0 (ok := fun _ => True) (okp := fun _ => True) rfl (fun _ hk => hk) trivial (dq) (Nat.le_trans (Nat.mul_le_mul_right _ (dq : (l0.length : Int).toNat ≤ 35184372088832)) (by omega)) (Below.refl _ _) (Nat.le_refl _) ?_; intro av w4 au hb hg_ hnew_; clear hg_ hnew_; (first | rw [← ah.1] at au | (simp only [Int.reduceToNat] at au; rw [← ah.1] at au)); have ao := am (Kd.qCH au (qBJ pbl)); replace HB := bsl hb; clear hb au))
 go_loopg [11] k (fun kq aY w' => ∃ (ac : List Int) (aa : Int), aY = .int .i64 aa ∧ Aside0 (qAO.l0 kq ac l0 (l0.length : Int) aa = some r) ∧ Aside0 (kq ≤ k) ∧ Aside0 (Kd.R (Kd.int .i64) 3 w' w.heap.size (fun _ => True) av ac) ∧ Aside0 (Below w.heap.size w w'))
 case atStart => exact ⟨(aw), (0), prs, H', ⟨Nat.le_refl _⟩, ⟨pkr ao.1⟩, ⟨pbg⟩⟩
 clear H'
 try clear c2 az aA c3 aB aC
 obtain ⟨ac, aa, rfl, HA, aN, ab, HB⟩ := hrel
 obtain _ | k1 := gk
 ·exact absurd HA.1 (by simp [qAO.l0])
 have H := HA.1
 clear HA
 simp only [qAO.l0] at H
 replace H := ifl H
 rcases H with ⟨aD, H⟩ | ⟨aD, H⟩
 rotate_left
 ·obtain rfl := Option.some.inj H
  go_wp2
  go_ret
  exact ⟨_, per, pkr ab.1, pbg⟩
 replace H := ifd H
 obtain ⟨aT, H⟩ := H
 replace H := ifd H
 obtain ⟨aU, H⟩ := H
 replace H := bnd H
 obtain ⟨ae, A9, H⟩ := H
 (try dsimp only at H)
 replace H := ifd H
 obtain ⟨aP, H⟩ := H
 obtain ⟨ak, ag⟩ : ∃ y_ : List Int, y_ = (ac.set (aa : Int).toNat ae) := ⟨_, rfl⟩
 replace H : (qAO.l0 k1 ak l0 (l0.length : Int) (wrap64 (aa + 1))) = some r := hrp ag H
 have ap := am ag
 clear ag
 have H' := am H
 clear H
 obtain ⟨aW, aX, aO, aF, ax⟩ := bint aS.1 HB.1 aa
 cases aF
 go_wp2_with (first | ((with_reducible refine qBO (f := 99) rfl ?_); refine gC 19 Try.func99 _ (omega_rank.calls (rd l0 aa) ae _ A9.1) ?_; rintro e w' ⟨rfl, ⟨nd, rfl⟩⟩; refine ⟨_, rfl, ?_⟩; (try (rw [drewN_self wr]; generalize hq_ : World.drewN wr _ = wr; replace ab : Aside0 (Kd.R (Kd.int .i64) 3 wr w.heap.size (fun _ => True) av ac) := ⟨by rw [← hq_]; exact (pkr ab.1)⟩; replace HB : Aside0 (Below w.heap.size w wr) := ⟨by rw [← hq_]; exact pbl⟩; clear hq_)); have aK : 0 ≤ (aa : Int) := dq; have aL : (aa : Int) < ((ac.length : Int) : Int) := dq; obtain ⟨aj, aE, aq, ar, aG, aV, al⟩ := Kd.R_form ab.1 (by omega); (first | cases aq | (injection aq with ea_ en_ ec_; (first | subst ea_ | (injection ea_ with ea_; subst ea_)); subst ec_; clear en_)); have ay := am ar; have aR := am al; clear ar aG al; obtain ⟨aI, aH⟩ := Kd.R_celln 0 ab.1 (aa : Int) aK aL; replace aK := eq_true aK; replace aL := eq_true aL; obtain ⟨hy12_, hz12_⟩ := Kd.R_celln 0 ab.1 (aa : Int) (dq) (dq); have ai := Kd.R_putg ab.1 (aa : Int) ae) | ((with_reducible refine gate_store (t := 3) (p := 20) rfl ?_); refine store_event (t := 3) (p := 20) (v := ?vo_w13) (w1 := (wr.setCell ⟨aj, (aa : Int).toNat, none⟩ (.int .i64 ae))) ?hg ?ho ?hn ?hr ?_; (case ho => rfl); (case hg => rfl); (case hn => rfl); (case hr => first | (go_simp; done) | (go_simp; rfl)); intro aM hw; have hg : wr.grownBy aM (some aj) := (by rw [hw]; exact ai.2); have hp_ : Kd.R (Kd.int .i64) 3 aM w.heap.size (fun _ => True) (.slice (some ⟨aj, 0, none⟩) ac.length aE) ak := (by rw [hw, ap.1]; exact ai.1); clear ai; replace ab := am hp_; replace HB := am ((by rw [hw]; exact qCN (HB.1) ay.1 : Below w.heap.size w aM)); clear hg hw hp_))
 go_roundg k1
 case measure => have := aN.1; omega
 case rel => exact ⟨(ak), (wrap64 (aa + 1)), prs, H', ⟨by have := aN.1; omega⟩, ⟨pkr ab.1⟩, ⟨pbg⟩⟩

/-! ### marking_Leq: function 105 -/
def marking_Leq.l0 : Nat → List Int → List Int → Int → Int → Option (Bool)
 | 0, _, _, _, _ => none
 | k + 1, x0, x1, x12, x13 => if x13 < x12 then (if 0 ≤ x13 then (if x13 < (x0.length : Int) then (if x13 < (x1.length : Int) then (if (rd x0 x13) > (rd x1 x13) then (some false) else (marking_Leq.l0 k x0 x1 x12 (wrap64 (x13 + 1)))) else (none)) else (none)) else (none)) else (some true)
def marking_Leq.f (k : Nat) (l0 : List Int) (l1 : List Int) : Option (Bool) := if (l0.length : Int) = (l1.length : Int) then (marking_Leq.l0 k l0 l1 (l0.length : Int) 0) else (some false)
theorem marking_Leq.mono_l : ∀ k, M4 marking_Leq.l0 k
 | 0 => fun _ _ _ _ r h => by simp [marking_Leq.l0] at h
 | k + 1 => by
  have ap := marking_Leq.mono_l k
  ·intro y0 y1 y2 y3
   unfold marking_Leq.l0
   repeat' first | (with_reducible first | apply ap | apply lr | apply ln | apply li | refine lb ?_ fun _ => ?_)
theorem marking_Leq.mono : ∀ a0 a1 k, LeO (marking_Leq.f k a0 a1) (marking_Leq.f (k + 1) a0 a1) := by
 intro a0 a1 k
 have ap := marking_Leq.mono_l k
 unfold marking_Leq.f
 repeat' first | (with_reducible first | apply ap | apply lr | apply ln | apply li | refine lb ?_ fun _ => ?_)
theorem marking_Leq.calls (k : Nat) (A0 : Option Addr) (c0 : Nat) (l0 : List Int) (A1 : Option Addr) (c1 : Nat) (l1 : List Int) (r : Bool) (w : World) (aA : Kd.C (Kd.int .i64) w A0 l0.length l0) (hc0 : l0.length ≤ c0) (hr1 : Kd.C (Kd.int .i64) w A1 l1.length l1) (az : l1.length ≤ c1) (h : marking_Leq.f k l0 l1 = some r) :
  Calls Try.prog 105 #[.slice A0 l0.length c0, .slice A1 l1.length c1] w fun e w' => e = .returned (.bool r) ∧ Drawn0 w w' := by
 have ax := am aA
 have aF := am hc0
 clear aA hc0
 have ay := am hr1
 have aG := am az
 clear hr1 az
 have H := h
 unfold marking_Leq.f at H
 clear h
 by_cases c3 : (l0.length : Int) = (l1.length : Int)
 rotate_left
 ·rw [if_neg c3] at H
  have ai : ((l0.length : Int) == (l1.length : Int)) = false := beq_eq_false_iff_ne.mpr c3
  have aj : ((l0.length : Int) != (l1.length : Int)) = true := bne_iff_ne.mpr c3
  have ak : (l0.length == l1.length) = false := by first | simpa using c3 | (simp at c3 ⊢; omega)
  obtain rfl := Option.some.inj H
  go_enter Try.func105, Try.ntmps105
  go_wp2
  repeat (go_quiet (fail); try go_wp2)
  go_ret
  exact ⟨prs, pdr⟩
 rw [if_pos c3] at H
 have ai : ((l0.length : Int) == (l1.length : Int)) = true := beq_iff_eq.mpr c3
 have aj : ((l0.length : Int) != (l1.length : Int)) = false := bne_eq_false_iff_eq.mpr c3
 have ak : (l0.length == l1.length) = true := by first | simpa using c3 | (simp at c3 ⊢; omega)
 clear c3
 have H' := am H
 clear H
 go_enter Try.func105, Try.ntmps105
 go_wp2
 repeat (go_quiet (fail); try go_wp2)
 go_loopg [13] k (fun kq aE w' => ∃ (aa : Int), aE = .int .i64 aa ∧ Aside0 (marking_Leq.l0 kq l0 l1 (l0.length : Int) aa = some r) ∧ Aside0 (kq ≤ k) ∧ Drawn0 w w')
 case atStart => exact ⟨(0), prs, H', ⟨Nat.le_refl _⟩, pdr⟩
 clear H'
 try clear c1 c3 ai aj ak
 obtain ⟨aa, rfl, HA, aw, ⟨m1, rfl⟩⟩ := hrel
 obtain _ | k1 := gk
 ·exact absurd HA.1 (by simp [marking_Leq.l0])
 have H := HA.1
 clear HA
 simp only [marking_Leq.l0] at H
 replace H := ifl H
 rcases H with ⟨al, H⟩ | ⟨al, H⟩
 rotate_left
 ·obtain rfl := Option.some.inj H
  go_wp2
  repeat (go_quiet (fail); try go_wp2)
  go_ret
  exact ⟨prs, pdr⟩
 replace H := ifd H
 obtain ⟨aB, H⟩ := H
 replace H := ifd H
 obtain ⟨aC, H⟩ := H
 replace H := ifd H
 obtain ⟨aD, H⟩ := H
 replace H := ifg H
 rcases H with ⟨ao, H⟩ | ⟨ao, H⟩
 ·obtain rfl := Option.some.inj H
  obtain ⟨aq, au, ag, ae, ab⟩ := dint ax.1 aa
  cases ae
  obtain ⟨ar, av, ah, af, ac⟩ := dint ay.1 aa
  cases af
  go_wp2
  repeat (go_quiet (fail); try go_wp2)
  go_ret
  exact ⟨prs, pdr⟩
 have H' := am H
 clear H
 obtain ⟨aq, au, ag, ae, ab⟩ := dint ax.1 aa
 cases ae
 obtain ⟨ar, av, ah, af, ac⟩ := dint ay.1 aa
 cases af
 go_wp2
 repeat (go_quiet (fail); try go_wp2)
 go_roundg k1
 case measure => have := aw.1; omega
 case rel => exact ⟨(wrap64 (aa + 1)), prs, H', ⟨by have := aw.1; omega⟩, pdr⟩

/-! ### omega_Leq: function 80 -/
def omega_Leq.f (k : Nat) (l0 : List Int) (l1 : List Int) : Option (Bool) := (qAN.f k l0 (l1.length : Int)).bind fun af => (if af = true then ((qAN.f k l1 (l1.length : Int)).bind fun ag => (if ag = true then ((qAO.f k l0).bind fun ac => ((qAO.f k l1).bind fun ae => ((marking_Leq.f k ac ae).bind fun ah => (some ah)))) else (some false))) else (some false))
theorem omega_Leq.mono : ∀ a0 a1 k, LeO (omega_Leq.f k a0 a1) (omega_Leq.f (k + 1) a0 a1) := by
 intro a0 a1 k
 unfold omega_Leq.f
 repeat' first | (with_reducible first | apply marking_Leq.mono | apply qAN.mono | apply qAO.mono | apply lr | apply ln | apply li | refine lb ?_ fun _ => ?_)
theorem omega_Leq.calls (k : Nat) (A0 : Option Addr) (c0 : Nat) (l0 : List Int) (A1 : Option Addr) (c1 : Nat) (l1 : List Int) (r : Bool) (w : World) (au : Kd.C (Kd.int .i64) w A0 l0.length l0) (hc0 : l0.length ≤ c0) (hr1 : Kd.C (Kd.int .i64) w A1 l1.length l1) (ar : l1.length ≤ c1) (h : omega_Leq.f k l0 l1 = some r) :
  Calls Try.prog 80 #[.slice A0 l0.length c0, .slice A1 l1.length c1] w fun e w' => e = .returned (.bool r) ∧ Below w.heap.size w w' := by
 have ak := am au
 have aj := am hc0
 clear au hc0
 have ao := am hr1
 have al := am ar
 clear hr1 ar
 have HB := am (Below.refl w.heap.size w)
 have H := h
 unfold omega_Leq.f at H
 clear h
 replace H := bnd H
 obtain ⟨af, A3, H⟩ := H
 (try dsimp only at H)
 cases af
 ·rw [if_neg Bool.false_ne_true] at H
  obtain rfl := Option.some.inj H
  go_enter Try.func80, Try.ntmps80
  go_wp2_with (first | ((with_reducible refine qBO (f := 69) rfl ?_); refine gC 8 Try.func69 _ (qAN.calls k _ _ l0 (l1.length : Int) false _ (csd ak.1) aj.1 A3.1) ?_; rintro e aH ⟨rfl, hb⟩; refine ⟨_, rfl, ?_⟩; replace HB := bsl hb; (try clear hb)))
  go_ret
  exact ⟨per, pbg⟩
 rw [if_pos rfl] at H
 replace H := bnd H
 obtain ⟨ag, A5, H⟩ := H
 (try dsimp only at H)
 cases ag
 ·rw [if_neg Bool.false_ne_true] at H
  obtain rfl := Option.some.inj H
  go_enter Try.func80, Try.ntmps80
  go_wp2_with (first | ((with_reducible refine qBO (f := 69) rfl ?_); refine gC 8 Try.func69 _ (qAN.calls k _ _ l0 (l1.length : Int) true _ (csd ak.1) aj.1 A3.1) ?_; rintro e aF ⟨rfl, hb⟩; refine ⟨_, rfl, ?_⟩; replace HB := bsl hb; (try clear hb)) | (go_at_call 69; (with_reducible refine (qAN.calls k _ _ l1 (l1.length : Int) false _ ?side1 ?side2 A5.1).mono ?_); (case side1 => exact csb ao HB); (case side2 => exact al.1); rintro e aG ⟨rfl, hb⟩; replace HB := bsl hb; (try clear hb)))
  go_ret
  exact ⟨per, pbg⟩
 rw [if_pos rfl] at H
 replace H := bnd H
 obtain ⟨ac, A7, H⟩ := H
 (try dsimp only at H)
 replace H := bnd H
 obtain ⟨ae, A8, H⟩ := H
 (try dsimp only at H)
 replace H := bnd H
 obtain ⟨ah, A9, H⟩ := H
 (try dsimp only at H)
 obtain rfl := Option.some.inj H
 go_enter Try.func80, Try.ntmps80
 go_wp2_with (first | ((with_reducible refine qBO (f := 69) rfl ?_); refine gC 8 Try.func69 _ (qAN.calls k _ _ l0 (l1.length : Int) true _ (csd ak.1) aj.1 A3.1) ?_; rintro e aB ⟨rfl, hb⟩; refine ⟨_, rfl, ?_⟩; replace HB := bsl hb; (try clear hb)) | (go_at_call 69; (with_reducible refine (qAN.calls k _ _ l1 (l1.length : Int) true _ ?side1 ?side2 A5.1).mono ?_); (case side1 => exact csb ao HB); (case side2 => exact al.1); rintro e aC ⟨rfl, hb⟩; replace HB := bsl hb; (try clear hb)) | (go_at_call 73; (with_reducible refine (qAO.calls k _ _ l0 ac _ ?side1 ?side2 A7.1).mono ?_); (case side1 => exact csb ak HB); (case side2 => exact aj.1); rintro e aD ⟨az, rfl, ai, hb⟩; have aa := am (Kd.qCH ai (qBJ pbl)); replace HB := bsl hb; (try clear hb); (try clear ai)) | (go_at_call 73; (with_reducible refine (qAO.calls k _ _ l1 ae _ ?side1 ?side2 A8.1).mono ?_); (case side1 => exact csb ao HB); (case side2 => exact al.1); rintro e aE ⟨aA, rfl, ai, hb⟩; have ab := am (Kd.qCH (Kd.R_new' ai (Kd.R_lt (pkr aa.1))) (qBJ pbl)); replace aa := am (Kd.R_elder' (pkr aa.1) (Kd.R_base ai) hb); replace HB := bsl hb; (try clear hb); (try clear ai); obtain ⟨av, ax, ap⟩ := Kd.R_slice aa.1; subst ap; obtain ⟨aw, ay, aq⟩ := Kd.R_slice ab.1; subst aq) | (go_at_call 105; (with_reducible refine (marking_Leq.calls k _ _ ac _ _ ae ah _ ?side1 ?side2 ?side3 ?side4 A9.1).mono ?_); (case side1 => exact csd ((Kd.qBR aa.1).2.2)); (case side2 => exact (Kd.qBR aa.1).2.1); (case side3 => exact csd ((Kd.qBR ab.1).2.2)); (case side4 => exact (Kd.qBR ab.1).2.1); rintro e w' ⟨rfl, ⟨nd, rfl⟩⟩))
 go_ret
 exact ⟨per, pbg⟩

/-! ### qAH: function 100 -/
def qAH.l0 : Nat → List Int → List Int → Int → Int → Option (Bool)
 | 0, _, _, _, _ => none
 | k + 1, x1, x12, x13, x14 => if x14 < x13 then (if 0 ≤ x14 then (if x14 < (x12.length : Int) then (if x14 < (x1.length : Int) then (if (rd x1 x14) = (rd x12 x14) then (qAH.l0 k x1 x12 x13 (wrap64 (x14 + 1))) else (some false)) else (none)) else (none)) else (none)) else (some true)
def qAH.f (k : Nat) (l0 : List Int) (l1 : List Int) : Option (Bool) := if (l0.length : Int) = (l1.length : Int) then (qAH.l0 k l1 l0 (l0.length : Int) 0) else (some false)
theorem qAH.mono_l : ∀ k, M4 qAH.l0 k
 | 0 => fun _ _ _ _ r h => by simp [qAH.l0] at h
 | k + 1 => by
  have aq := qAH.mono_l k
  ·intro y0 y1 y2 y3
   unfold qAH.l0
   repeat' first | (with_reducible first | apply aq | apply lr | apply ln | apply li | refine lb ?_ fun _ => ?_)
theorem qAH.mono : ∀ a0 a1 k, LeO (qAH.f k a0 a1) (qAH.f (k + 1) a0 a1) := by
 intro a0 a1 k
 have aq := qAH.mono_l k
 unfold qAH.f
 repeat' first | (with_reducible first | apply aq | apply lr | apply ln | apply li | refine lb ?_ fun _ => ?_)
theorem qAH.calls (k : Nat) (A0 : Option Addr) (c0 : Nat) (l0 : List Int) (A1 : Option Addr) (c1 : Nat) (l1 : List Int) (r : Bool) (w : World) (aB : Kd.C (Kd.int .i64) w A0 l0.length l0) (hc0 : l0.length ≤ c0) (hr1 : Kd.C (Kd.int .i64) w A1 l1.length l1) (aA : l1.length ≤ c1) (h : qAH.f k l0 l1 = some r) :
  Calls Try.prog 100 #[.slice A0 l0.length c0, .slice A1 l1.length c1] w fun e w' => e = .returned (.bool r) ∧ Drawn0 w w' := by
 have ay := am aB
 have aG := am hc0
 clear aB hc0
 have az := am hr1
 have aH := am aA
 clear hr1 aA
 have H := h
 unfold qAH.f at H
 clear h
 by_cases c3 : (l0.length : Int) = (l1.length : Int)
 rotate_left
 ·rw [if_neg c3] at H
  have ai : ((l0.length : Int) == (l1.length : Int)) = false := beq_eq_false_iff_ne.mpr c3
  have aj : ((l0.length : Int) != (l1.length : Int)) = true := bne_iff_ne.mpr c3
  have ak : (l0.length == l1.length) = false := by first | simpa using c3 | (simp at c3 ⊢; omega)
  obtain rfl := Option.some.inj H
  go_enter Try.func100, Try.ntmps100
  go_wp2
  go_ret
  exact ⟨prs, pdr⟩
 rw [if_pos c3] at H
 have ai : ((l0.length : Int) == (l1.length : Int)) = true := beq_iff_eq.mpr c3
 have aj : ((l0.length : Int) != (l1.length : Int)) = false := bne_eq_false_iff_eq.mpr c3
 have ak : (l0.length == l1.length) = true := by first | simpa using c3 | (simp at c3 ⊢; omega)
 clear c3
 have H' := am H
 clear H
 go_enter Try.func100, Try.ntmps100
 go_wp2
 go_loopg [14] k (fun kq aF w' => ∃ (aa : Int), aF = .int .i64 aa ∧ Aside0 (qAH.l0 kq l1 l0 (l0.length : Int) aa = some r) ∧ Aside0 (kq ≤ k) ∧ Drawn0 w w')
 case atStart => exact ⟨(0), prs, H', ⟨Nat.le_refl _⟩, pdr⟩
 clear H'
 try clear c1 c3 ai aj ak
 obtain ⟨aa, rfl, HA, ax, ⟨m1, rfl⟩⟩ := hrel
 obtain _ | k1 := gk
 ·exact absurd HA.1 (by simp [qAH.l0])
 have H := HA.1
 clear HA
 simp only [qAH.l0] at H
 replace H := ifl H
 rcases H with ⟨al, H⟩ | ⟨al, H⟩
 rotate_left
 ·obtain rfl := Option.some.inj H
  go_wp2
  go_ret
  exact ⟨prs, pdr⟩
 replace H := ifd H
 obtain ⟨aC, H⟩ := H
 replace H := ifd H
 obtain ⟨aD, H⟩ := H
 replace H := ifd H
 obtain ⟨aE, H⟩ := H
 replace H := ife H
 rcases H with ⟨ao, ap, H⟩ | ⟨ao, ap, H⟩
 rotate_left
 ·obtain rfl := Option.some.inj H
  obtain ⟨ar, av, ag, ae, ab⟩ := dint ay.1 aa
  cases ae
  obtain ⟨au, aw, ah, af, ac⟩ := dint az.1 aa
  cases af
  go_wp2
  go_ret
  exact ⟨prs, pdr⟩
 have H' := am H
 clear H
 obtain ⟨ar, av, ag, ae, ab⟩ := dint ay.1 aa
 cases ae
 obtain ⟨au, aw, ah, af, ac⟩ := dint az.1 aa
 cases af
 go_wp2
 go_roundg k1
 case measure => have := ax.1; omega
 case rel => exact ⟨(wrap64 (aa + 1)), prs, H', ⟨by have := ax.1; omega⟩, pdr⟩

/-! ### qAG: function 68 -/
def qAG.l0 : Nat → List Int → List (S73) → Int → Int → Option (Bool)
 | 0, _, _, _, _ => none
 | k + 1, x1, x7, x8, x9 => if x9 < x8 then (if 0 ≤ x9 then (if x9 < (x7.length : Int) then ((qAH.f k ((rd_T73 x7 x9).f2) x1).bind fun ap => (if ap = true then (some true) else (qAG.l0 k x1 x7 x8 (wrap64 (x9 + 1))))) else (none)) else (none)) else (some false)
def qAG.f (k : Nat) (l0 : List (S73)) (l1 : List Int) : Option (Bool) := qAG.l0 k l1 l0 (l0.length : Int) 0
theorem qAG.mono_l : ∀ k, M4 qAG.l0 k
 | 0 => fun _ _ _ _ r h => by simp [qAG.l0] at h
 | k + 1 => by
  have aw := qAG.mono_l k
  ·intro y0 y1 y2 y3
   unfold qAG.l0
   repeat' first | (with_reducible first | apply aw | apply qAH.mono | apply lr | apply ln | apply li | refine lb ?_ fun _ => ?_)
theorem qAG.mono : ∀ a0 a1 k, LeO (qAG.f k a0 a1) (qAG.f (k + 1) a0 a1) := by
 intro a0 a1 k
 have aw := qAG.mono_l k
 unfold qAG.f
 repeat' first | (with_reducible first | apply aw | apply qAH.mono | apply lr | apply ln | apply li | refine lb ?_ fun _ => ?_)
theorem qAG.calls (k : Nat) (A0 : Option Addr) (c0 : Nat) (l0 : List (S73)) (A1 : Option Addr) (c1 : Nat) (l1 : List Int) (r : Bool) (w : World) (aE : Kd.C k73 w A0 l0.length l0) (hc0 : l0.length ≤ c0) (hr1 : Kd.C (Kd.int .i64) w A1 l1.length l1) (aD : l1.length ≤ c1) (h : qAG.f k l0 l1 = some r) :
  Calls Try.prog 68 #[.slice A0 l0.length c0, .slice A1 l1.length c1] w fun e w' => e = .returned (.bool r) ∧ Below w.heap.size w w' := by
 have aH := Try.underlying73
 have aB := am aE
 have aJ := am hc0
 clear aE hc0
 have aC := am hr1
 have az := am aD
 clear hr1 aD
 have HB := am (Below.refl w.heap.size w)
 have H := h
 unfold qAG.f at H
 clear h
 have H' := am H
 clear H
 go_enter Try.func68, Try.ntmps68
 go_wp2
 go_loopg [9] k (fun kq v9 w' => ∃ (ac : Int), v9 = .int .i64 ac ∧ Aside0 (qAG.l0 kq l1 l0 (l0.length : Int) ac = some r) ∧ Aside0 (kq ≤ k) ∧ Aside0 (Below w.heap.size w w'))
 case atStart => exact ⟨(0), prs, H', ⟨Nat.le_refl _⟩, ⟨pbg⟩⟩
 clear H'
 try clear c1
 obtain ⟨ac, rfl, HA, aA, HB⟩ := hrel
 obtain _ | k1 := gk
 ·exact absurd HA.1 (by simp [qAG.l0])
 have H := HA.1
 clear HA
 simp only [qAG.l0] at H
 replace H := ifl H
 rcases H with ⟨av, H⟩ | ⟨av, H⟩
 rotate_left
 ·obtain rfl := Option.some.inj H
  go_wp2
  go_ret
  exact ⟨per, pbg⟩
 replace H := ifd H
 obtain ⟨aF, H⟩ := H
 replace H := ifd H
 obtain ⟨aG, H⟩ := H
 replace H := bnd H
 obtain ⟨ap, A6, H⟩ := H
 (try dsimp only at H)
 cases ap
 rotate_left
 ·rw [if_pos rfl] at H
  obtain rfl := Option.some.inj H
  obtain ⟨ax, ay, ar, ak, al, ao, ag, ah, ai, aj, aa, ab⟩ := bT73 aB.1 HB.1 ac
  cases ao
  go_wp2_with (first | ((with_reducible refine qBN (N := 6) rfl ?_); refine box_ev (N := 6) (cs := #[.int .i64 0, .int .i64 0, .slice none 0 0, .bool false]) (t := 73) ?_; intro au hg w8 hbox hb; have ae := am hbox; have af := gwl hg; have aq := af; replace HB := bsl hb; clear hb hbox hg; have aL := cf4 ae.1) | ((with_reducible refine qBO (f := 100) rfl ?_); refine gC 16 Try.func100 _ (qAH.calls k1 _ _ ((rd_T73 l0 ac).f2) _ _ l1 true _ (Kd.qCG ab.1 pbg) aa.1 (Kd.qCG aC.1 pbg) az.1 A6.1) ?_; rintro e w' ⟨rfl, ⟨nd, rfl⟩⟩; refine ⟨_, rfl, ?_⟩))
  go_ret
  exact ⟨per, pbg⟩
 rw [if_neg Bool.false_ne_true] at H
 have H' := am H
 clear H
 obtain ⟨ax, ay, ar, ak, al, ao, ag, ah, ai, aj, aa, ab⟩ := bT73 aB.1 HB.1 ac
 cases ao
 go_wp2_with (first | ((with_reducible refine qBN (N := 6) rfl ?_); refine box_ev (N := 6) (cs := #[.int .i64 0, .int .i64 0, .slice none 0 0, .bool false]) (t := 73) ?_; intro au hg aK hbox hb; have ae := am hbox; have af := gwl hg; have aq := af; replace HB := bsl hb; clear hb hbox hg; have aI := cf4 ae.1) | ((with_reducible refine qBO (f := 100) rfl ?_); refine gC 16 Try.func100 _ (qAH.calls k1 _ _ ((rd_T73 l0 ac).f2) _ _ l1 false _ (Kd.qCG ab.1 pbg) aa.1 (Kd.qCG aC.1 pbg) az.1 A6.1) ?_; rintro e w' ⟨rfl, ⟨nd, rfl⟩⟩; refine ⟨_, rfl, ?_⟩))
 go_roundg k1
 case measure => have := aA.1; omega
 case rel => exact ⟨(wrap64 (ac + 1)), prs, H', ⟨by have := aA.1; omega⟩, ⟨pbg⟩⟩

/-! ### qAR: function 71 -/
def qAR.f (k : Nat) (l0 : List Int) (l1 : List Int) : Option (Bool) := (omega_Leq.f k l0 l1).bind fun aa => (if aa = true then ((omega_Leq.f k l1 l0).bind fun ab => (some (!ab))) else (some false))
theorem qAR.mono : ∀ a0 a1 k, LeO (qAR.f k a0 a1) (qAR.f (k + 1) a0 a1) := by
 intro a0 a1 k
 unfold qAR.f
 repeat' first | (with_reducible first | apply omega_Leq.mono | apply lr | apply ln | apply li | refine lb ?_ fun _ => ?_)
theorem qAR.calls (k : Nat) (A0 : Option Addr) (c0 : Nat) (l0 : List Int) (A1 : Option Addr) (c1 : Nat) (l1 : List Int) (r : Bool) (w : World) (ai : Kd.C (Kd.int .i64) w A0 l0.length l0) (hc0 : l0.length ≤ c0) (hr1 : Kd.C (Kd.int .i64) w A1 l1.length l1) (ah : l1.length ≤ c1) (h : qAR.f k l0 l1 = some r) :
  Calls Try.prog 71 #[.slice A0 l0.length c0, .slice A1 l1.length c1] w fun e w' => e = .returned (.bool r) ∧ Below w.heap.size w w' := by
 have af := am ai
 have ac := am hc0
 clear ai hc0
 have ag := am hr1
 have ae := am ah
 clear hr1 ah
 have HB := am (Below.refl w.heap.size w)
 have H := h
 unfold qAR.f at H
 clear h
 replace H := bnd H
 obtain ⟨aa, A3, H⟩ := H
 (try dsimp only at H)
 cases aa
 ·rw [if_neg Bool.false_ne_true] at H
  obtain rfl := Option.some.inj H
  go_enter Try.func71, Try.ntmps71
  go_wp2_with (first | ((with_reducible refine qBO (f := 80) rfl ?_); refine gC 7 Try.func80 _ (omega_Leq.calls k _ _ l0 _ _ l1 false _ (csd af.1) ac.1 (csd ag.1) ae.1 A3.1) ?_; rintro e w8 ⟨rfl, hb⟩; refine ⟨_, rfl, ?_⟩; replace HB := bsl hb; (try clear hb)))
  go_ret
  exact ⟨per, pbg⟩
 rw [if_pos rfl] at H
 replace H := bnd H
 obtain ⟨ab, A5, H⟩ := H
 (try dsimp only at H)
 obtain rfl := Option.some.inj H
 go_enter Try.func71, Try.ntmps71
 go_wp2_with (first | ((with_reducible refine qBO (f := 80) rfl ?_); refine gC 7 Try.func80 _ (omega_Leq.calls k _ _ l0 _ _ l1 true _ (csd af.1) ac.1 (csd ag.1) ae.1 A3.1) ?_; rintro e w6 ⟨rfl, hb⟩; refine ⟨_, rfl, ?_⟩; replace HB := bsl hb; (try clear hb)) | (go_at_call 80; (with_reducible refine (omega_Leq.calls k _ _ l1 _ _ l0 ab _ ?side1 ?side2 ?side3 ?side4 A5.1).mono ?_); (case side1 => exact csb ag HB); (case side2 => exact ae.1); (case side3 => exact csb af HB); (case side4 => exact ac.1); rintro e w7 ⟨rfl, hb⟩; replace HB := bsl hb; (try clear hb)))
 go_ret
 exact ⟨per, pbg⟩

/-! ### qAZ: function 72 -/
def qAZ.l0 : Nat → List Int → List Int → Int → Int → Option (Int)
 | 0, _, _, _, _ => none
 | k + 1, x0, x1, x10, x11 => if x11 < x10 then (if 0 ≤ x11 then (if x11 < (x0.length : Int) then (if x11 < (x1.length : Int) then (if (rd x0 x11) < (rd x1 x11) then (some (-1)) else (if (rd x0 x11) > (rd x1 x11) then (some 1) else (qAZ.l0 k x0 x1 x10 (wrap64 (x11 + 1))))) else (none)) else (none)) else (none)) else (if (x0.length : Int) < (x1.length : Int) then (some (-1)) else (if (x0.length : Int) > (x1.length : Int) then (some 1) else (some 0)))
def qAZ.f (k : Nat) (l0 : List Int) (l1 : List Int) : Option (Int) := qAZ.l0 k l0 l1 (mn (l0.length : Int) (l1.length : Int)) 0
theorem qAZ.mono_l : ∀ k, M4 qAZ.l0 k
 | 0 => fun _ _ _ _ r h => by simp [qAZ.l0] at h
 | k + 1 => by
  have aI := qAZ.mono_l k
  ·intro y0 y1 y2 y3
   unfold qAZ.l0
   repeat' first | (with_reducible first | apply aI | apply lr | apply ln | apply li | refine lb ?_ fun _ => ?_)
theorem qAZ.mono : ∀ a0 a1 k, LeO (qAZ.f k a0 a1) (qAZ.f (k + 1) a0 a1) := by
 intro a0 a1 k
 have aI := qAZ.mono_l k
 unfold qAZ.f
 repeat' first | (with_reducible first | apply aI | apply lr | apply ln | apply li | refine lb ?_ fun _ => ?_)
theorem qAZ.calls (k : Nat) (A0 : Option Addr) (c0 : Nat) (l0 : List Int) (A1 : Option Addr) (c1 : Nat) (l1 : List Int) (r : Int) (w : World) (aP : Kd.C (Kd.int .i64) w A0 l0.length l0) (hc0 : l0.length ≤ c0) (hr1 : Kd.C (Kd.int .i64) w A1 l1.length l1) (aO : l1.length ≤ c1) (h : qAZ.f k l0 l1 = some r) :
  Calls Try.prog 72 #[.slice A0 l0.length c0, .slice A1 l1.length c1] w fun e w' => e = .returned (.int .i64 r) ∧ Below w.heap.size w w' := by
 have av := am aP
 have aU := am hc0
 clear aP hc0
 have aw := am hr1
 have aV := am aO
 clear hr1 aO
 have HB := am (Below.refl w.heap.size w)
 have H := h
 unfold qAZ.f at H
 clear h
 obtain ⟨au, ab⟩ : ∃ j_ : Int, (mn (l0.length : Int) (l1.length : Int)) = j_ := ⟨_, rfl⟩
 replace H : (qAZ.l0 k l0 l1 au 0) = some r := by first | (rw [ab] at H; exact H) | (simp only [ab] at H ⊢; exact H)
 (try (have hji3l : 0 ≤ au := by (rw [← ab]; unfold mn; (repeat' split) <;> omega)))
 (try (have hji3m : 0 ≤ au := by omega))
 have hji3_ : (if (l1.length : Int) < (l0.length : Int) then (l1.length : Int) else (l0.length : Int)) = au := ab
 have hjn_ : (if l1.length < l0.length then (l1.length : Int) else (l0.length : Int)) = au := by rw [← hji3_]; simp only [Int.ofNat_lt]
 have H' := am H
 clear H
 go_enter Try.func72, Try.ntmps72
 go_wp2
 repeat (go_quiet (fail); try go_wp2)
 go_loopg [11] k (fun kq aT w' => ∃ (aa : Int), aT = .int .i64 aa ∧ Aside0 (qAZ.l0 kq l0 l1 au aa = some r) ∧ Aside0 (kq ≤ k) ∧ Aside0 (Below w.heap.size w w'))
 case atStart => exact ⟨(0), prs, H', ⟨Nat.le_refl _⟩, ⟨pbg⟩⟩
 clear H'
 try clear c1
 obtain ⟨aa, rfl, HA, aN, HB⟩ := hrel
 obtain _ | k1 := gk
 ·exact absurd HA.1 (by simp [qAZ.l0])
 have H := HA.1
 clear HA
 simp only [qAZ.l0] at H
 replace H := ifl H
 rcases H with ⟨aF, H⟩ | ⟨aF, H⟩
 rotate_left
 ·by_cases c10 : (l0.length : Int) < (l1.length : Int)
  ·rw [if_pos c10] at H
   have ax : decide ((l0.length : Int) < (l1.length : Int)) = true := decide_eq_true c10
   have ay : decide (l0.length < l1.length) = true := decide_eq_true (Int.ofNat_lt.mp c10)
   clear c10
   obtain rfl := Option.some.inj H
   go_wp2
   repeat (go_quiet (fail); try go_wp2)
   go_ret
   exact ⟨by first | rfl | (simp [errW_none, errW_some] <;> rfl) | (simp only [← ab]; first | rfl | (simp [errW_none, errW_some] <;> rfl)) | (simp [*, errW_none, errW_some] <;> rfl), pbg⟩
  rw [if_neg c10] at H
  have ax : decide ((l0.length : Int) < (l1.length : Int)) = false := decide_eq_false c10
  have ay : decide (l0.length < l1.length) = false := decide_eq_false (fun h => c10 (Int.ofNat_lt.mpr h))
  clear c10
  by_cases ap : (l0.length : Int) > (l1.length : Int)
  ·rw [if_pos ap] at H
   have az : decide ((l1.length : Int) < (l0.length : Int)) = true := decide_eq_true ap
   have aA : decide (l1.length < l0.length) = true := decide_eq_true (Int.ofNat_lt.mp ap)
   clear ap
   obtain rfl := Option.some.inj H
   go_wp2
   repeat (go_quiet (fail); try go_wp2)
   go_ret
   exact ⟨by first | rfl | (simp [errW_none, errW_some] <;> rfl) | (simp only [← ab]; first | rfl | (simp [errW_none, errW_some] <;> rfl)) | (simp [*, errW_none, errW_some] <;> rfl), pbg⟩
  rw [if_neg ap] at H
  have az : decide ((l1.length : Int) < (l0.length : Int)) = false := decide_eq_false ap
  have aA : decide (l1.length < l0.length) = false := decide_eq_false (fun h => ap (Int.ofNat_lt.mpr h))
  clear ap
  obtain rfl := Option.some.inj H
  go_wp2
  repeat (go_quiet (fail); try go_wp2)
  go_ret
  exact ⟨by first | rfl | (simp [errW_none, errW_some] <;> rfl) | (simp only [← ab]; first | rfl | (simp [errW_none, errW_some] <;> rfl)) | (simp [*, errW_none, errW_some] <;> rfl), pbg⟩
 replace H := ifd H
 obtain ⟨aQ, H⟩ := H
 replace H := ifd H
 obtain ⟨aR, H⟩ := H
 replace H := ifd H
 obtain ⟨aS, H⟩ := H
 replace H := ifl H
 rcases H with ⟨aG, H⟩ | ⟨aG, H⟩
 ·obtain rfl := Option.some.inj H
  obtain ⟨aB, aD, ac, aj, af⟩ := bint av.1 HB.1 aa
  cases aj
  obtain ⟨aC, aE, ae, ak, ag⟩ := bint aw.1 HB.1 aa
  cases ak
  go_wp2
  repeat (go_quiet (fail); try go_wp2)
  go_ret
  exact ⟨by first | rfl | (simp [errW_none, errW_some] <;> rfl) | (simp only [← ab]; first | rfl | (simp [errW_none, errW_some] <;> rfl)) | (simp [*, errW_none, errW_some] <;> rfl), pbg⟩
 replace H := ifg H
 rcases H with ⟨aH, H⟩ | ⟨aH, H⟩
 rotate_left
 ·have H' := am H
  clear H
  obtain ⟨aB, aD, ac, aj, af⟩ := bint av.1 HB.1 aa
  cases aj
  obtain ⟨aC, aE, ae, ak, ag⟩ := bint aw.1 HB.1 aa
  cases ak
  obtain ⟨aJ, aL, ah, aq, al⟩ := bint av.1 HB.1 aa
  obtain rfl : ac = ah := (by injection aq)
  obtain ⟨aK, aM, ai, ar, ao⟩ := bint aw.1 HB.1 aa
  obtain rfl : ae = ai := (by injection ar)
  go_wp2
  repeat (go_quiet (fail); try go_wp2)
  go_roundg k1
  case measure => have := aN.1; omega
  case rel => exact ⟨(wrap64 (aa + 1)), prs, H', ⟨by have := aN.1; omega⟩, ⟨pbg⟩⟩
 obtain rfl := Option.some.inj H
 obtain ⟨aB, aD, ac, aj, af⟩ := bint av.1 HB.1 aa
 cases aj
 obtain ⟨aC, aE, ae, ak, ag⟩ := bint aw.1 HB.1 aa
 cases ak
 obtain ⟨aJ, aL, ah, aq, al⟩ := bint av.1 HB.1 aa
 obtain rfl : ac = ah := (by injection aq)
 obtain ⟨aK, aM, ai, ar, ao⟩ := bint aw.1 HB.1 aa
 obtain rfl : ae = ai := (by injection ar)
 go_wp2
 repeat (go_quiet (fail); try go_wp2)
 go_ret
 exact ⟨by first | rfl | (simp [errW_none, errW_some] <;> rfl) | (simp only [← ab]; first | rfl | (simp [errW_none, errW_some] <;> rfl)) | (simp [*, errW_none, errW_some] <;> rfl), pbg⟩

/-! ### qAT: function 39 -/
def qAT.l0 : Nat → List (List Int) → List (List Int) → Int → Int → Option ((List (List Int)))
 | 0, _, _, _, _ => none
 | k + 1, x3, x6, x7, x8 => if x8 < x7 then (if 0 ≤ x8 then (if x8 < (x6.length : Int) then ((qAN.f k (rd_L11 x6 x8) ((rd_L11 x6 x8).length : Int)).bind fun bc => (if bc = true then (if (x3.length : Int) = 0 then (if x3.length < 5864062014805 then (qAT.l0 k (x3 ++ [rd_L11 x6 x8]) x6 x7 (wrap64 (x8 + 1))) else (none)) else (if 0 < (x3.length : Int) then (if ((rd_L11 x3 0).length : Int) = ((rd_L11 x6 x8).length : Int) then (if x3.length < 5864062014805 then (qAT.l0 k (x3 ++ [rd_L11 x6 x8]) x6 x7 (wrap64 (x8 + 1))) else (none)) else (qAT.l0 k x3 x6 x7 (wrap64 (x8 + 1)))) else (none))) else (qAT.l0 k x3 x6 x7 (wrap64 (x8 + 1))))) else (none)) else (none)) else (some x3)
def qAT.f (k : Nat) (l0 : List (List Int)) : Option ((List (List Int))) := qAT.l0 k ([] : List (List Int)) l0 (l0.length : Int) 0
theorem qAT.mono_l : ∀ k, M4 qAT.l0 k
 | 0 => fun _ _ _ _ r h => by simp [qAT.l0] at h
 | k + 1 => by
  have bz := qAT.mono_l k
  ·intro y0 y1 y2 y3
   unfold qAT.l0
   repeat' first | (with_reducible first | apply bz | apply qAN.mono | apply lr | apply ln | apply li | refine lb ?_ fun _ => ?_)
theorem qAT.mono : ∀ a0 k, LeO (qAT.f k a0) (qAT.f (k + 1) a0) := by
 intro a0 k
 have bz := qAT.mono_l k
 unfold qAT.f
 repeat' first | (with_reducible first | apply bz | apply qAN.mono | apply lr | apply ln | apply li | refine lb ?_ fun _ => ?_)
theorem qAT.calls (k : Nat) (P0_ : Nat → Prop) (A0 : Option Addr) (c0 : Nat) (l0 : List (List Int)) (r : List (List Int)) (w : World) (hs0 : Kd.V (Kd.slice 3 (Kd.int .i64)) 39 w w.heap.size (fun k_ => P0_ k_) (.slice A0 l0.length c0) l0) (h : qAT.f k l0 = some r) :
  Calls Try.prog 39 #[.slice A0 l0.length c0] w fun e w' => ∃ v0_ : Value, e = .returned (v0_) ∧ Kd.N (Kd.slice 3 (Kd.int .i64)) 39 w' w.heap.size (fun k_ => (P0_ k_ ∨ w.heap.size ≤ k_)) v0_ r ∧ Below w.heap.size w w' := by
 have bG := am (show Kd.V (Kd.slice 3 (Kd.int .i64)) 39 w w.heap.size (fun k_ => (P0_ k_ ∨ w.heap.size ≤ k_)) (.slice A0 l0.length c0) l0 from Kd.V_mono hs0 (fun k_ hk => .inl hk))
 have HB := am (Below.refl w.heap.size w)
 have H := h
 unfold qAT.f at H
 clear h
 have H' := am H
 clear H
 go_enter Try.func39, Try.ntmps39
 go_wp2
 go_loopg [3, 8] k (fun kq v3 v8 w' => ∃ (ah : List (List Int)) (aa : Int), v8 = .int .i64 aa ∧ Aside0 (qAT.l0 kq ah l0 (l0.length : Int) aa = some r) ∧ Aside0 (kq ≤ k) ∧ Aside0 (Kd.N (Kd.slice 3 (Kd.int .i64)) 39 w' w.heap.size (fun k_ => (P0_ k_ ∨ w.heap.size ≤ k_)) v3 ah) ∧ Aside0 (Kd.V (Kd.slice 3 (Kd.int .i64)) 39 w' w.heap.size (fun k_ => (P0_ k_ ∨ w.heap.size ≤ k_) ∧ some k_ ≠ (v3 : Value).ownBlock) (.slice A0 l0.length c0) l0) ∧ Aside0 (Below w.heap.size w w'))
 case atStart => exact ⟨(([] : List (List Int))), (0), prs, H', ⟨Nat.le_refl _⟩, ⟨knl⟩, ⟨vmo bG.1 (fun _ hk => ⟨hk, (by simp [Value.ownBlock])⟩)⟩, ⟨pbg⟩⟩
 clear H'
 obtain ⟨ah, aa, rfl, HA, a8, al, ak, HB⟩ := hrel
 obtain _ | k1 := gk
 ·exact absurd HA.1 (by simp [qAT.l0])
 have H := HA.1
 clear HA
 simp only [qAT.l0] at H
 replace H := ifl H
 rcases H with ⟨br, H⟩ | ⟨br, H⟩
 rotate_left
 ·obtain rfl := Option.some.inj H
  go_wp2
  go_ret
  exact ⟨_, per, pkn al.1, pbg⟩
 replace H := ifd H
 obtain ⟨bH, H⟩ := H
 replace H := ifd H
 obtain ⟨bI, H⟩ := H
 replace H := bnd H
 obtain ⟨bc, A5, H⟩ := H
 (try dsimp only at H)
 cases bc
 ·rw [if_neg Bool.false_ne_true] at H
  have H' := am H
  clear H
  have aw : 0 ≤ (aa : Int) := dq
  have ax : aa < (l0.length : Int) := dq
  obtain ⟨aV, aE, aG, aR, au, aj, ai⟩ := at_L11 (Kd.qBT ak.1).2.2 aa aw ax
  cases aR
  obtain ⟨aX, aA, az, ap⟩ := Kd.V_get ak.1 [] aa aw (by first | exact ax | exact dq | (have e_ := (Kd.qBT ak.1).1; omega))
  obtain ⟨aM, aN, rfl, ag, af⟩ := Kd.qBV az
  have ae := ap 0 _ rfl
  rw [Nat.add_zero, show ((Kd.slice 3 (Kd.int .i64))).sz = 1 from rfl, Nat.mul_one] at ae
  replace ae := Option.some.inj (ae.symm.trans au)
  injection ae with hva_ hvn_ hvc_
  rw [hva_] at af
  rw [hvc_] at ag
  have ab := am (show Kd.V (Kd.int .i64) 3 _ w.heap.size _ _ (rd_L11 l0 aa) from Kd.V_mk ag af)
  clear hva_ hvn_ hvc_ af ag ap aA
  have ac := am ai
  have aq := am aj
  clear ai aj
  replace aw := eq_true aw
  replace ax := eq_true ax
  go_wp2_with (first | ((with_reducible refine qBO (f := 69) rfl ?_); refine gC 15 Try.func69 _ (qAN.calls k1 _ _ (rd_L11 l0 aa) ((rd_L11 l0 aa).length : Int) false _ ?side1 ?side2 A5.1) ?_; (case side1 => exact csd ac.1); (case side2 => exact aq.1); rintro e bR ⟨rfl, hb⟩; refine ⟨_, rfl, ?_⟩; replace al := nbw al hb; replace ak := vbw ak hb; replace ab := vbw ab hb; replace ac := cbb ac hb; replace HB := bsl hb; (try clear hb)))
  go_roundg k1
  case measure => have := a8.1; omega
  case rel => exact ⟨(ah), (wrap64 (aa + 1)), prs, H', ⟨by have := a8.1; omega⟩, ⟨pkn al.1⟩, ⟨pkv ak.1⟩, ⟨pbg⟩⟩
 rw [if_pos rfl] at H
 by_cases c7 : (ah.length : Int) = 0
 ·rw [if_pos c7] at H
  have bs : ((ah.length : Int) == 0) = true := beq_iff_eq.mpr c7
  have bu : ((ah.length : Int) != 0) = false := bne_eq_false_iff_eq.mpr c7
  clear c7
  replace H := ifp H
  obtain ⟨c8, H⟩ := H
  have bq := am c8
  clear c8
  obtain ⟨bo, aY⟩ : ∃ y_ : List (List Int), y_ = (ah ++ [rd_L11 l0 aa]) := ⟨_, rfl⟩
  replace H : (qAT.l0 k1 bo l0 (l0.length : Int) (wrap64 (aa + 1))) = some r := hrp aY H
  have bh := am aY
  clear aY
  have H' := am H
  clear H
  have aw : 0 ≤ (aa : Int) := dq
  have ax : aa < (l0.length : Int) := dq
  obtain ⟨aV, aE, aG, aR, au, aj, ai⟩ := at_L11 (Kd.qBT ak.1).2.2 aa aw ax
  cases aR
  obtain ⟨aX, aA, az, ap⟩ := Kd.V_get ak.1 [] aa aw (by first | exact ax | exact dq | (have e_ := (Kd.qBT ak.1).1; omega))
  obtain ⟨aM, aN, rfl, ag, af⟩ := Kd.qBV az
  have ae := ap 0 _ rfl
  rw [Nat.add_zero, show ((Kd.slice 3 (Kd.int .i64))).sz = 1 from rfl, Nat.mul_one] at ae
  replace ae := Option.some.inj (ae.symm.trans au)
  injection ae with hva_ hvn_ hvc_
  rw [hva_] at af
  rw [hvc_] at ag
  have ab := am (show Kd.V (Kd.int .i64) 3 _ w.heap.size _ _ (rd_L11 l0 aa) from Kd.V_mk ag af)
  clear hva_ hvn_ hvc_ af ag ap aA
  have ac := am ai
  have aq := am aj
  clear ai aj
  replace aw := eq_true aw
  replace ax := eq_true ax
  go_wp2_with (first | ((with_reducible refine qBO (f := 69) rfl ?_); refine gC 15 Try.func69 _ (qAN.calls k1 _ _ (rd_L11 l0 aa) ((rd_L11 l0 aa).length : Int) true _ ?side1 ?side2 A5.1) ?_; (case side1 => exact csd ac.1); (case side2 => exact aq.1); rintro e w9 ⟨rfl, hb⟩; refine ⟨_, rfl, ?_⟩; replace al := nbw al hb; replace ak := vbw ak hb; replace ab := vbw ab hb; replace ac := cbb ac hb; replace HB := bsl hb; (try clear hb); obtain ⟨a1, a4, bv⟩ := Kd.N_slice al.1; subst bv) | ((with_reducible refine qBQ (b := .append) (xs := #[.tmp 30, .tmp 32]) rfl ?_); (try (refine qBP (by rfl) ?_; dsimp only)); at_builtin; refine Kd.N_append (Kd.slice 3 (Kd.int .i64)) (w0 := w) w.heap.size rfl (.tmp 30) (.tmp 32) 30 39 (.slice none 0 0) 24 rfl Try.underlying30 info39 rfl (by decide) (by omega) (.slice a1 ah.length a4) ah (rd_L11 l0 aa) [.slice aE (rd_L11 l0 aa).length aG] (fun k_ => (P0_ k_ ∨ w.heap.size ≤ k_)) (fun k_ => ((fun k_ => (P0_ k_ ∨ w.heap.size ≤ k_))) k_ ∧ some k_ ≠ (.slice a1 ah.length a4 : Value).ownBlock) rfl rfl ?aP (fun _ hk => hk) ?aF ?aO ?aB ?aS ?aL ?_; (case aP => exact (Kd.qBW (Kd.qBT (Kd.V_mono (ok' := (fun k_ => ((fun k_ => (P0_ k_ ∨ w.heap.size ≤ k_))) k_ ∧ some k_ ≠ (.slice a1 ah.length a4 : Value).ownBlock)) (ab.1) (fun k_ hk => ⟨hk.1, hk.2⟩))).2.1 (Kd.V_F (Kd.V_mono (ok' := (fun k_ => ((fun k_ => (P0_ k_ ∨ w.heap.size ≤ k_))) k_ ∧ some k_ ≠ (.slice a1 ah.length a4 : Value).ownBlock)) (ab.1) (fun k_ hk => ⟨hk.1, hk.2⟩))))); (case aB => exact pbl); (case aF => exact (fun k_ hk => (.inr (Nat.le_trans (qBJ pbl) hk)))); (case aO => exact (pkn al.1)); (case aS => exact (qBJ pbl)); (case aL => have := bq.1; omega); intro bL bN ho hb hg hat; rw [← bh.1] at ho; have bd := am ho; replace ak := am (Kd.qCE (ok := (fun k_ => (P0_ k_ ∨ w.heap.size ≤ k_))) (pkv ak.1) hg hat); replace ab := am (Kd.qCE (ok := (fun k_ => (P0_ k_ ∨ w.heap.size ≤ k_))) (pkv ab.1) hg hat); replace HB := am hb; clear al; clear ho hb hg hat))
  go_roundg k1
  case measure => have := a8.1; omega
  case rel => exact ⟨(bo), (wrap64 (aa + 1)), prs, H', ⟨by have := a8.1; omega⟩, ⟨pkn bd.1⟩, ⟨pkv ak.1⟩, ⟨pbg⟩⟩
 rw [if_neg c7] at H
 have bs : ((ah.length : Int) == 0) = false := beq_eq_false_iff_ne.mpr c7
 have bu : ((ah.length : Int) != 0) = true := bne_iff_ne.mpr c7
 have bJ : ¬ (ah = []) := fun h_ => c7 (by rw [h_]; rfl)
 replace H := ifp H
 obtain ⟨bA, H⟩ := H
 have bB := decide_eq_true bA
 have bC : decide (0 < ah.length) = true := decide_eq_true (by omega)
 clear bA
 by_cases aW : ((rd_L11 ah 0).length : Int) = ((rd_L11 l0 aa).length : Int)
 rotate_left
 ·rw [if_neg aW] at H
  have bj : (((rd_L11 ah 0).length : Int) == ((rd_L11 l0 aa).length : Int)) = false := beq_eq_false_iff_ne.mpr aW
  have bk : (((rd_L11 ah 0).length : Int) != ((rd_L11 l0 aa).length : Int)) = true := bne_iff_ne.mpr aW
  have bl : ((rd_L11 ah 0).length == (rd_L11 l0 aa).length) = false := by first | simpa using aW | (simp at aW ⊢; omega)
  have H' := am H
  clear H
  have aw : 0 ≤ (aa : Int) := dq
  have ax : aa < (l0.length : Int) := dq
  obtain ⟨aV, aE, aG, aR, au, aj, ai⟩ := at_L11 (Kd.qBT ak.1).2.2 aa aw ax
  cases aR
  obtain ⟨aX, aA, az, ap⟩ := Kd.V_get ak.1 [] aa aw (by first | exact ax | exact dq | (have e_ := (Kd.qBT ak.1).1; omega))
  obtain ⟨aM, aN, rfl, ag, af⟩ := Kd.qBV az
  have ae := ap 0 _ rfl
  rw [Nat.add_zero, show ((Kd.slice 3 (Kd.int .i64))).sz = 1 from rfl, Nat.mul_one] at ae
  replace ae := Option.some.inj (ae.symm.trans au)
  injection ae with hva_ hvn_ hvc_
  rw [hva_] at af
  rw [hvc_] at ag
  have ab := am (show Kd.V (Kd.int .i64) 3 _ w.heap.size _ _ (rd_L11 l0 aa) from Kd.V_mk ag af)
  clear hva_ hvn_ hvc_ af ag ap aA
  have ac := am ai
  have aq := am aj
  clear ai aj
  replace aw := eq_true aw
  replace ax := eq_true ax
  go_wp2_with (first | ((with_reducible refine qBO (f := 69) rfl ?_); refine gC 15 Try.func69 _ (qAN.calls k1 _ _ (rd_L11 l0 aa) ((rd_L11 l0 aa).length : Int) true _ ?side1 ?side2 A5.1) ?_; (case side1 => exact csd ac.1); (case side2 => exact aq.1); rintro e bQ ⟨rfl, hb⟩; refine ⟨_, rfl, ?_⟩; replace al := nbw al hb; replace ak := vbw ak hb; replace ab := vbw ab hb; replace ac := cbb ac hb; replace HB := bsl hb; (try clear hb); obtain ⟨bF, bK, bx⟩ := Kd.N_slice al.1; subst bx; have aJ : 0 ≤ (0 : Int) := (by omega); have aK : 0 < (ah.length : Int) := dq; obtain ⟨aQ, a9, ba, bb, av, aD, aC⟩ := at_L11 (Kd.qBS al.1).2.2 0 aJ aK; cases bb; obtain ⟨bm, aU, aT, aH⟩ := Kd.N_get al.1 [] 0 aJ (by first | exact aK | exact dq | (have e_ := (Kd.qBS al.1).1; omega)); obtain ⟨a6, a7, rfl, ay, ar⟩ := Kd.qBV aT; have ao := aH 0 _ rfl; rw [Nat.add_zero, show ((Kd.slice 3 (Kd.int .i64))).sz = 1 from rfl, Nat.mul_one] at ao; replace ao := Option.some.inj (ao.symm.trans av); injection ao with hva_ hvn_ hvc_; rw [hva_] at ar; rw [hvc_] at ay; have aI := am (show Kd.V (Kd.int .i64) 3 _ w.heap.size _ _ (rd_L11 ah 0) from Kd.V_mk ay ar); clear hva_ hvn_ hvc_ ar ay; clear aH aU; have bn : (0 < ah.length) = True := eq_true (by omega); (try rw [show ((0 : Int)).toNat = 0 from rfl] at av); (try rw [Addr.add_zero'] at av); have a3 := am aC; have a2 := am aD; clear aC aD; replace aJ := eq_true aJ; replace aK := eq_true aK))
  go_roundg k1
  case measure => have := a8.1; omega
  case rel => exact ⟨(ah), (wrap64 (aa + 1)), prs, H', ⟨by have := a8.1; omega⟩, ⟨pkn al.1⟩, ⟨pkv ak.1⟩, ⟨pbg⟩⟩
 rw [if_pos aW] at H
 have bj : (((rd_L11 ah 0).length : Int) == ((rd_L11 l0 aa).length : Int)) = true := beq_iff_eq.mpr aW
 have bk : (((rd_L11 ah 0).length : Int) != ((rd_L11 l0 aa).length : Int)) = false := bne_eq_false_iff_eq.mpr aW
 have bl : ((rd_L11 ah 0).length == (rd_L11 l0 aa).length) = true := by first | simpa using aW | (simp at aW ⊢; omega)
 clear aW
 replace H := ifp H
 obtain ⟨bD, H⟩ := H
 have bg := am bD
 clear bD
 obtain ⟨bp, aZ⟩ : ∃ y_ : List (List Int), y_ = (ah ++ [rd_L11 l0 aa]) := ⟨_, rfl⟩
 replace H : (qAT.l0 k1 bp l0 (l0.length : Int) (wrap64 (aa + 1))) = some r := hrp aZ H
 have bi := am aZ
 clear aZ
 have H' := am H
 clear H
 have aw : 0 ≤ (aa : Int) := dq
 have ax : aa < (l0.length : Int) := dq
 obtain ⟨aV, aE, aG, aR, au, aj, ai⟩ := at_L11 (Kd.qBT ak.1).2.2 aa aw ax
 cases aR
 obtain ⟨aX, aA, az, ap⟩ := Kd.V_get ak.1 [] aa aw (by first | exact ax | exact dq | (have e_ := (Kd.qBT ak.1).1; omega))
 obtain ⟨aM, aN, rfl, ag, af⟩ := Kd.qBV az
 have ae := ap 0 _ rfl
 rw [Nat.add_zero, show ((Kd.slice 3 (Kd.int .i64))).sz = 1 from rfl, Nat.mul_one] at ae
 replace ae := Option.some.inj (ae.symm.trans au)
 injection ae with hva_ hvn_ hvc_
 rw [hva_] at af
 rw [hvc_] at ag
 have ab := am (show Kd.V (Kd.int .i64) 3 _ w.heap.size _ _ (rd_L11 l0 aa) from Kd.V_mk ag af)
 clear hva_ hvn_ hvc_ af ag ap aA
 have ac := am ai
 have aq := am aj
 clear ai aj
 replace aw := eq_true aw
 replace ax := eq_true ax
 go_wp2_with (first | ((with_reducible refine qBO (f := 69) rfl ?_); refine gC 15 Try.func69 _ (qAN.calls k1 _ _ (rd_L11 l0 aa) ((rd_L11 l0 aa).length : Int) true _ ?side1 ?side2 A5.1) ?_; (case side1 => exact csd ac.1); (case side2 => exact aq.1); rintro e bO ⟨rfl, hb⟩; refine ⟨_, rfl, ?_⟩; replace al := nbw al hb; replace ak := vbw ak hb; replace ab := vbw ab hb; replace ac := cbb ac hb; replace HB := bsl hb; (try clear hb); obtain ⟨bE, a5, bw⟩ := Kd.N_slice al.1; subst bw; have aJ : 0 ≤ (0 : Int) := (by omega); have aK : 0 < (ah.length : Int) := dq; obtain ⟨aQ, a9, ba, bb, av, aD, aC⟩ := at_L11 (Kd.qBS al.1).2.2 0 aJ aK; cases bb; obtain ⟨bm, aU, aT, aH⟩ := Kd.N_get al.1 [] 0 aJ (by first | exact aK | exact dq | (have e_ := (Kd.qBS al.1).1; omega)); obtain ⟨a6, a7, rfl, ay, ar⟩ := Kd.qBV aT; have ao := aH 0 _ rfl; rw [Nat.add_zero, show ((Kd.slice 3 (Kd.int .i64))).sz = 1 from rfl, Nat.mul_one] at ao; replace ao := Option.some.inj (ao.symm.trans av); injection ao with hva_ hvn_ hvc_; rw [hva_] at ar; rw [hvc_] at ay; have aI := am (show Kd.V (Kd.int .i64) 3 _ w.heap.size _ _ (rd_L11 ah 0) from Kd.V_mk ay ar); clear hva_ hvn_ hvc_ ar ay; clear aH aU; have bn : (0 < ah.length) = True := eq_true (by omega); (try rw [show ((0 : Int)).toNat = 0 from rfl] at av); (try rw [Addr.add_zero'] at av); have a3 := am aC; have a2 := am aD; clear aC aD; replace aJ := eq_true aJ; replace aK := eq_true aK) | ((with_reducible refine qBQ (b := .append) (xs := #[.tmp 30, .tmp 32]) rfl ?_); (try (refine qBP (by rfl) ?_; dsimp only)); at_builtin; refine Kd.N_append (Kd.slice 3 (Kd.int .i64)) (w0 := w) w.heap.size rfl (.tmp 30) (.tmp 32) 30 39 (.slice none 0 0) 24 rfl Try.underlying30 info39 rfl (by decide) (by omega) (.slice (some aQ) ah.length a5) ah (rd_L11 l0 aa) [.slice aE (rd_L11 l0 aa).length aG] (fun k_ => (P0_ k_ ∨ w.heap.size ≤ k_)) (fun k_ => ((fun k_ => (P0_ k_ ∨ w.heap.size ≤ k_))) k_ ∧ some k_ ≠ (.slice (some aQ) ah.length a5 : Value).ownBlock) rfl rfl ?aP (fun _ hk => hk) ?aF ?aO ?aB ?aS ?aL ?_; (case aP => exact (Kd.qBW (Kd.qBT (Kd.V_mono (ok' := (fun k_ => ((fun k_ => (P0_ k_ ∨ w.heap.size ≤ k_))) k_ ∧ some k_ ≠ (.slice (some aQ) ah.length a5 : Value).ownBlock)) (ab.1) (fun k_ hk => ⟨hk.1, hk.2⟩))).2.1 (Kd.V_F (Kd.V_mono (ok' := (fun k_ => ((fun k_ => (P0_ k_ ∨ w.heap.size ≤ k_))) k_ ∧ some k_ ≠ (.slice (some aQ) ah.length a5 : Value).ownBlock)) (ab.1) (fun k_ hk => ⟨hk.1, hk.2⟩))))); (case aB => exact pbl); (case aF => exact (fun k_ hk => (.inr (Nat.le_trans (qBJ pbl) hk)))); (case aO => exact (pkn al.1)); (case aS => exact (qBJ pbl)); (case aL => have := bg.1; omega); intro bM bP ho hb hg hat; rw [← bi.1] at ho; have bf := am ho; replace ak := am (Kd.qCE (ok := (fun k_ => (P0_ k_ ∨ w.heap.size ≤ k_))) (pkv ak.1) hg hat); replace ab := am (Kd.qCE (ok := (fun k_ => (P0_ k_ ∨ w.heap.size ≤ k_))) (pkv ab.1) hg hat); replace aI := am (Kd.qCE (ok := (fun k_ => (P0_ k_ ∨ w.heap.size ≤ k_))) (pkv aI.1) hg hat); replace HB := am hb; clear al; clear ho hb hg hat))
 go_roundg k1
 case measure => have := a8.1; omega
 case rel => exact ⟨(bp), (wrap64 (aa + 1)), prs, H', ⟨by have := a8.1; omega⟩, ⟨pkn bf.1⟩, ⟨pkv ak.1⟩, ⟨pbg⟩⟩

/-! ### qAQ: function 40 -/
def qAQ.l0 : Nat → List Int → List Int → List Int → Int → Int → Option (Bool)
 | 0, _, _, _, _, _ => none
 | k + 1, x0, x1, x7, x8, x9 => if x9 < x8 then (if 0 ≤ x9 then (if x9 < (x7.length : Int) then (if (rd x7 x9) = (-1) then (some false) else (qAQ.l0 k x0 x1 x7 x8 (wrap64 (x9 + 1)))) else (none)) else (none)) else ((omega_Leq.f k x1 x0).bind fun ae => (some ae))
def qAQ.f (k : Nat) (l0 : List Int) (l1 : List Int) : Option (Bool) := qAQ.l0 k l0 l1 l1 (l1.length : Int) 0
theorem qAQ.mono_l : ∀ k, M5 qAQ.l0 k
 | 0 => fun _ _ _ _ _ r h => by simp [qAQ.l0] at h
 | k + 1 => by
  have ak := qAQ.mono_l k
  ·intro y0 y1 y2 y3 y4
   unfold qAQ.l0
   repeat' first | (with_reducible first | apply ak | apply omega_Leq.mono | apply lr | apply ln | apply li | refine lb ?_ fun _ => ?_)
theorem qAQ.mono : ∀ a0 a1 k, LeO (qAQ.f k a0 a1) (qAQ.f (k + 1) a0 a1) := by
 intro a0 a1 k
 have ak := qAQ.mono_l k
 unfold qAQ.f
 repeat' first | (with_reducible first | apply ak | apply omega_Leq.mono | apply lr | apply ln | apply li | refine lb ?_ fun _ => ?_)
theorem qAQ.calls (k : Nat) (A0 : Option Addr) (c0 : Nat) (l0 : List Int) (A1 : Option Addr) (c1 : Nat) (l1 : List Int) (r : Bool) (w : World) (ar : Kd.C (Kd.int .i64) w A0 l0.length l0) (hc0 : l0.length ≤ c0) (hr1 : Kd.C (Kd.int .i64) w A1 l1.length l1) (aq : l1.length ≤ c1) (h : qAQ.f k l0 l1 = some r) :
  Calls Try.prog 40 #[.slice A0 l0.length c0, .slice A1 l1.length c1] w fun e w' => e = .returned (.bool r) ∧ Below w.heap.size w w' := by
 have aw := am ar
 have au := am hc0
 clear ar hc0
 have ag := am hr1
 have av := am aq
 clear hr1 aq
 have HB := am (Below.refl w.heap.size w)
 have H := h
 unfold qAQ.f at H
 clear h
 have H' := am H
 clear H
 go_enter Try.func40, Try.ntmps40
 go_wp2
 go_loopg [9] k (fun kq v9 w' => ∃ (aa : Int), v9 = .int .i64 aa ∧ Aside0 (qAQ.l0 kq l0 l1 l1 (l1.length : Int) aa = some r) ∧ Aside0 (kq ≤ k) ∧ Aside0 (Below w.heap.size w w'))
 case atStart => exact ⟨(0), prs, H', ⟨Nat.le_refl _⟩, ⟨pbg⟩⟩
 clear H'
 try clear c1
 obtain ⟨aa, rfl, HA, ap, HB⟩ := hrel
 obtain _ | k1 := gk
 ·exact absurd HA.1 (by simp [qAQ.l0])
 have H := HA.1
 clear HA
 simp only [qAQ.l0] at H
 replace H := ifl H
 rcases H with ⟨ah, H⟩ | ⟨ah, H⟩
 rotate_left
 ·replace H := bnd H
  obtain ⟨ae, A7, H⟩ := H
  (try dsimp only at H)
  obtain rfl := Option.some.inj H
  go_wp2_with (first | ((with_reducible refine qBO (f := 80) rfl ?_); refine gC 18 Try.func80 _ (omega_Leq.calls k1 _ _ l1 _ _ l0 ae _ (csb ag HB) av.1 (csb aw HB) au.1 A7.1) ?_; rintro e w8 ⟨rfl, hb⟩; refine ⟨_, rfl, ?_⟩; replace HB := bsl hb; (try clear hb)))
  go_ret
  exact ⟨per, pbg⟩
 replace H := ifd H
 obtain ⟨ax, H⟩ := H
 replace H := ifd H
 obtain ⟨ay, H⟩ := H
 replace H := ife H
 rcases H with ⟨ai, aj, H⟩ | ⟨ai, aj, H⟩
 ·obtain rfl := Option.some.inj H
  obtain ⟨al, ao, af, ac, ab⟩ := bint ag.1 HB.1 aa
  cases ac
  go_wp2
  go_ret
  exact ⟨per, pbg⟩
 have H' := am H
 clear H
 obtain ⟨al, ao, af, ac, ab⟩ := bint ag.1 HB.1 aa
 cases ac
 go_wp2
 go_roundg k1
 case measure => have := ap.1; omega
 case rel => exact ⟨(wrap64 (aa + 1)), prs, H', ⟨by have := ap.1; omega⟩, ⟨pbg⟩⟩

/-! ### qAU: function 17 -/
def qAU.l0 : Nat → List Int → List (List Int) → Int → Int → Option (Bool)
 | 0, _, _, _, _ => none
 | k + 1, x1, x8, x9, x10 => if x10 < x9 then (if 0 ≤ x10 then (if x10 < (x8.length : Int) then ((qAQ.f k (rd_L11 x8 x10) x1).bind fun aC => (if aC = true then (some true) else (qAU.l0 k x1 x8 x9 (wrap64 (x10 + 1))))) else (none)) else (none)) else (some false)
def qAU.f (k : Nat) (l0 : List (List Int)) (l1 : List Int) : Option (Bool) := (qAT.f k l0).bind fun aj => (qAU.l0 k l1 aj (aj.length : Int) 0)
theorem qAU.mono_l : ∀ k, M4 qAU.l0 k
 | 0 => fun _ _ _ _ r h => by simp [qAU.l0] at h
 | k + 1 => by
  have aG := qAU.mono_l k
  ·intro y0 y1 y2 y3
   unfold qAU.l0
   repeat' first | (with_reducible first | apply aG | apply qAT.mono | apply qAQ.mono | apply lr | apply ln | apply li | refine lb ?_ fun _ => ?_)
theorem qAU.mono : ∀ a0 a1 k, LeO (qAU.f k a0 a1) (qAU.f (k + 1) a0 a1) := by
 intro a0 a1 k
 have aG := qAU.mono_l k
 unfold qAU.f
 repeat' first | (with_reducible first | apply aG | apply qAT.mono | apply qAQ.mono | apply lr | apply ln | apply li | refine lb ?_ fun _ => ?_)
theorem qAU.calls (k : Nat) (A0 : Option Addr) (c0 : Nat) (l0 : List (List Int)) (A1 : Option Addr) (c1 : Nat) (l1 : List Int) (r : Bool) (w : World) (aM : Kd.C (Kd.slice 3 (Kd.int .i64)) w A0 l0.length l0) (hc0 : l0.length ≤ c0) (hr1 : Kd.C (Kd.int .i64) w A1 l1.length l1) (aK : l1.length ≤ c1) (h : qAU.f k l0 l1 = some r) :
  Calls Try.prog 17 #[.slice A0 l0.length c0, .slice A1 l1.length c1] w fun e w' => e = .returned (.bool r) ∧ Below w.heap.size w w' := by
 have aP := am aM
 have aO := am hc0
 clear aM hc0
 have aJ := am hr1
 have aH := am aK
 clear hr1 aK
 have HB := am (Below.refl w.heap.size w)
 have H := h
 unfold qAU.f at H
 clear h
 replace H := bnd H
 obtain ⟨aj, A3, H⟩ := H
 (try dsimp only at H)
 have H' := am H
 clear H
 go_enter Try.func17, Try.ntmps17
 go_wp2_with (first | ((with_reducible refine qBO (f := 39) rfl ?_); refine gC 8 Try.func39 _ (qAT.calls k (fun k_ => k_ < w.heap.size) _ _ l0 aj _ (Kd.V_mk aO.1 (Kd.F_below (Kd.C_F (Kd.heap_slice 3 (Kd.heap_int .i64)) aP.1) pbl)) A3.1) ?_; rintro e w4 ⟨aV, rfl, aL, hb⟩; refine ⟨_, rfl, ?_⟩; have ay := am (Kd.N_lower (Kd.N_mono (ok' := fun k_ => True) aL (fun k_ hk_ => trivial)) (qBJ pbl)); replace HB := bsl hb; (try clear hb); (try clear aL); obtain ⟨aN, aS, aT⟩ := Kd.N_slice ay.1; subst aT))
 go_loopg [10] k (fun kq aU w' => ∃ (aa : Int), aU = .int .i64 aa ∧ Aside0 (qAU.l0 kq l1 aj (aj.length : Int) aa = some r) ∧ Aside0 (kq ≤ k) ∧ Aside0 (Kd.N (Kd.slice 3 (Kd.int .i64)) 39 w' w.heap.size (fun _ => True) (.slice aN aj.length aS) aj) ∧ Aside0 (Below w.heap.size w w'))
 case atStart => exact ⟨(0), prs, H', ⟨Nat.le_refl _⟩, ⟨pkn ay.1⟩, ⟨pbg⟩⟩
 clear H'
 try clear c1
 obtain ⟨aa, rfl, HA, aI, ak, HB⟩ := hrel
 obtain _ | k1 := gk
 ·exact absurd HA.1 (by simp [qAU.l0])
 have H := HA.1
 clear HA
 simp only [qAU.l0] at H
 replace H := ifl H
 rcases H with ⟨aF, H⟩ | ⟨aF, H⟩
 rotate_left
 ·obtain rfl := Option.some.inj H
  go_wp2
  go_ret
  exact ⟨per, pbg⟩
 replace H := ifd H
 obtain ⟨aQ, H⟩ := H
 replace H := ifd H
 obtain ⟨aR, H⟩ := H
 replace H := bnd H
 obtain ⟨aC, A9, H⟩ := H
 (try dsimp only at H)
 cases aC
 rotate_left
 ·rw [if_pos rfl] at H
  obtain rfl := Option.some.inj H
  have aq : 0 ≤ (aa : Int) := dq
  have ar : aa < (aj.length : Int) := dq
  obtain ⟨aD, az, aA, aB, ap, ai, ah⟩ := at_L11 (Kd.qBS ak.1).2.2 aa aq ar
  cases aB
  obtain ⟨aE, av, au, al⟩ := Kd.N_get ak.1 [] aa aq (by first | exact ar | exact dq | (have e_ := (Kd.qBS ak.1).1; omega))
  obtain ⟨aw, ax, rfl, af, ae⟩ := Kd.qBV au
  have ac := al 0 _ rfl
  rw [Nat.add_zero, show ((Kd.slice 3 (Kd.int .i64))).sz = 1 from rfl, Nat.mul_one] at ac
  replace ac := Option.some.inj (ac.symm.trans ap)
  injection ac with hva_ hvn_ hvc_
  rw [hva_] at ae
  rw [hvc_] at af
  have ag := am (show Kd.V (Kd.int .i64) 3 _ w.heap.size _ _ (rd_L11 aj aa) from Kd.V_mk af ae)
  clear hva_ hvn_ hvc_ ae af al av
  have ab := am ah
  have ao := am ai
  clear ah ai
  replace aq := eq_true aq
  replace ar := eq_true ar
  go_wp2_with (first | ((with_reducible refine qBO (f := 40) rfl ?_); refine gC 16 Try.func40 _ (qAQ.calls k1 _ _ (rd_L11 aj aa) _ _ l1 true _ ?side1 ?side2 ?side3 ?side4 A9.1) ?_; (case side1 => exact csd ab.1); (case side2 => exact ao.1); (case side3 => exact csb aJ HB); (case side4 => exact aH.1); rintro e aW ⟨rfl, hb⟩; refine ⟨_, rfl, ?_⟩; replace ak := nbw ak hb; replace ag := vbw ag hb; replace ab := cbb ab hb; replace HB := bsl hb; (try clear hb)))
  go_ret
  exact ⟨per, pbg⟩
 rw [if_neg Bool.false_ne_true] at H
 have H' := am H
 clear H
 have aq : 0 ≤ (aa : Int) := dq
 have ar : aa < (aj.length : Int) := dq
 obtain ⟨aD, az, aA, aB, ap, ai, ah⟩ := at_L11 (Kd.qBS ak.1).2.2 aa aq ar
 cases aB
 obtain ⟨aE, av, au, al⟩ := Kd.N_get ak.1 [] aa aq (by first | exact ar | exact dq | (have e_ := (Kd.qBS ak.1).1; omega))
 obtain ⟨aw, ax, rfl, af, ae⟩ := Kd.qBV au
 have ac := al 0 _ rfl
 rw [Nat.add_zero, show ((Kd.slice 3 (Kd.int .i64))).sz = 1 from rfl, Nat.mul_one] at ac
 replace ac := Option.some.inj (ac.symm.trans ap)
 injection ac with hva_ hvn_ hvc_
 rw [hva_] at ae
 rw [hvc_] at af
 have ag := am (show Kd.V (Kd.int .i64) 3 _ w.heap.size _ _ (rd_L11 aj aa) from Kd.V_mk af ae)
 clear hva_ hvn_ hvc_ ae af al av
 have ab := am ah
 have ao := am ai
 clear ah ai
 replace aq := eq_true aq
 replace ar := eq_true ar
 go_wp2_with (first | ((with_reducible refine qBO (f := 40) rfl ?_); refine gC 16 Try.func40 _ (qAQ.calls k1 _ _ (rd_L11 aj aa) _ _ l1 false _ ?side1 ?side2 ?side3 ?side4 A9.1) ?_; (case side1 => exact csd ab.1); (case side2 => exact ao.1); (case side3 => exact csb aJ HB); (case side4 => exact aH.1); rintro e aX ⟨rfl, hb⟩; refine ⟨_, rfl, ?_⟩; replace ak := nbw ak hb; replace ag := vbw ag hb; replace ab := cbb ab hb; replace HB := bsl hb; (try clear hb)))
 go_roundg k1
 case measure => have := aI.1; omega
 case rel => exact ⟨(wrap64 (aa + 1)), prs, H', ⟨by have := aI.1; omega⟩, ⟨pkn ak.1⟩, ⟨pbg⟩⟩

/-! ### qAP: function 44 -/
def qAP.l0 : Nat → List Int → List Int → Int → Int → Option (List Int)
 | 0, _, _, _, _ => none
 | k + 1, x3, x6, x7, x8 => if x8 < x7 then (if 0 ≤ x8 then (if x8 < (x6.length : Int) then (if (rd x6 x8) = (-1) then (qAP.l0 k x3 x6 x7 (wrap64 (x8 + 1))) else (if x3.length < 17592186044416 then (qAP.l0 k (x3 ++ [x8]) x6 x7 (wrap64 (x8 + 1))) else (none))) else (none)) else (none)) else (some x3)
def qAP.f (k : Nat) (l0 : List Int) : Option (List Int) := qAP.l0 k ([] : List Int) l0 (l0.length : Int) 0
theorem qAP.mono_l : ∀ k, M4 qAP.l0 k
 | 0 => fun _ _ _ _ r h => by simp [qAP.l0] at h
 | k + 1 => by
  have au := qAP.mono_l k
  ·intro y0 y1 y2 y3
   unfold qAP.l0
   repeat' first | (with_reducible first | apply au | apply lr | apply ln | apply li | refine lb ?_ fun _ => ?_)
theorem qAP.mono : ∀ a0 k, LeO (qAP.f k a0) (qAP.f (k + 1) a0) := by
 intro a0 k
 have au := qAP.mono_l k
 unfold qAP.f
 repeat' first | (with_reducible first | apply au | apply lr | apply ln | apply li | refine lb ?_ fun _ => ?_)
theorem qAP.calls (k : Nat) (A0 : Option Addr) (c0 : Nat) (l0 : List Int) (r : List Int) (w : World) (ay : Kd.C (Kd.int .i64) w A0 l0.length l0) (hc0 : l0.length ≤ c0) (h : qAP.f k l0 = some r) :
  Calls Try.prog 44 #[.slice A0 l0.length c0] w fun e w' => ∃ v0_ : Value, e = .returned (v0_) ∧ Kd.R (Kd.int .i64) 3 w' w.heap.size (fun _ => True) v0_ r ∧ Below w.heap.size w w' := by
 have ax := am ay
 have aD := am hc0
 clear ay hc0
 have HB := am (Below.refl w.heap.size w)
 have H := h
 unfold qAP.f at H
 clear h
 have H' := am H
 clear H
 go_enter Try.func44, Try.ntmps44
 go_wp2
 go_loopg [3, 8] k (fun kq v3 v8 w' => ∃ (ab : List Int) (aa : Int), v8 = .int .i64 aa ∧ Aside0 (qAP.l0 kq ab l0 (l0.length : Int) aa = some r) ∧ Aside0 (kq ≤ k) ∧ Aside0 (Kd.R (Kd.int .i64) 3 w' w.heap.size (fun _ => True) v3 ab) ∧ Aside0 (Below w.heap.size w w'))
 case atStart => exact ⟨(([] : List Int)), (0), prs, H', ⟨Nat.le_refl _⟩, ⟨knl⟩, ⟨pbg⟩⟩
 clear H'
 obtain ⟨ab, aa, rfl, HA, al, ae, HB⟩ := hrel
 obtain _ | k1 := gk
 ·exact absurd HA.1 (by simp [qAP.l0])
 have H := HA.1
 clear HA
 simp only [qAP.l0] at H
 replace H := ifl H
 rcases H with ⟨ap, H⟩ | ⟨ap, H⟩
 rotate_left
 ·obtain rfl := Option.some.inj H
  go_wp2
  go_ret
  exact ⟨_, per, pkr ae.1, pbg⟩
 replace H := ifd H
 obtain ⟨az, H⟩ := H
 replace H := ifd H
 obtain ⟨aA, H⟩ := H
 replace H := ife H
 rcases H with ⟨aq, ar, H⟩ | ⟨aq, ar, H⟩
 ·have H' := am H
  clear H
  obtain ⟨av, aw, aj, ag, af⟩ := bint ax.1 HB.1 aa
  cases ag
  go_wp2
  go_roundg k1
  case measure => have := al.1; omega
  case rel => exact ⟨(ab), (wrap64 (aa + 1)), prs, H', ⟨by have := al.1; omega⟩, ⟨pkr ae.1⟩, ⟨pbg⟩⟩
 replace H := ifp H
 obtain ⟨c6, H⟩ := H
 have ao := am c6
 clear c6
 obtain ⟨ak, ac⟩ : ∃ y_ : List Int, y_ = (ab ++ [aa]) := ⟨_, rfl⟩
 replace H : (qAP.l0 k1 ak l0 (l0.length : Int) (wrap64 (aa + 1))) = some r := hrp ac H
 have ai := am ac
 clear ac
 have H' := am H
 clear H
 obtain ⟨av, aw, aj, ag, af⟩ := bint ax.1 HB.1 aa
 cases ag
 go_wp2_with (first | ((with_reducible refine qBQ (b := .append) (xs := #[.tmp 15, .tmp 17]) rfl ?_); at_builtin; refine Kd.R_append (Kd.int .i64) (w0 := w) w.heap.size rfl (.tmp 15) (.tmp 17) 39 3 (.int .i64 0) 8 rfl Try.underlying39 info3 rfl (by decide) (by omega) u3 ab aa [.int .i64 aa] (fun _ => True) (fun _ => False) rfl rfl ?aP (fun _ hk => hk.elim) ?aF ?aO ?aB ?aS ?aL ?_; (case aP => exact rfl); (case aB => exact pbl); (case aF => exact (fun _ _ => trivial)); (case aO => exact (pkr ae.1)); (case aS => exact (qBJ pbl)); (case aL => have := ao.1; omega); intro aC w7 ho hb hg hat; rw [← ai.1] at ho; have ah := am ho; replace HB := am hb; clear ae; clear ho hb hg hat))
 go_roundg k1
 case measure => have := al.1; omega
 case rel => exact ⟨(ak), (wrap64 (aa + 1)), prs, H', ⟨by have := al.1; omega⟩, ⟨pkr ah.1⟩, ⟨pbg⟩⟩

/-! ### qAW: function 22 -/
def qAW.l0 : Nat → List (List Int) → List (List Int) → Int → Int → Option (Bool)
 | 0, _, _, _, _ => none
 | k + 1, x3, x8, x9, x10 => if x10 < x9 then (if 0 ≤ x10 then (if x10 < (x8.length : Int) then ((qAP.f k (rd_L11 x8 x10)).bind fun au => (if (au.length : Int) < ((rd_L11 x8 x10).length : Int) then (some false) else (qAW.l0 k x3 x8 x9 (wrap64 (x10 + 1))))) else (none)) else (none)) else (some (decide ((x3.length : Int) > 0)))
def qAW.f (k : Nat) (l0 : List (List Int)) : Option (Bool) := (qAT.f k l0).bind fun ae => (qAW.l0 k ae ae (ae.length : Int) 0)
theorem qAW.mono_l : ∀ k, M4 qAW.l0 k
 | 0 => fun _ _ _ _ r h => by simp [qAW.l0] at h
 | k + 1 => by
  have aN := qAW.mono_l k
  ·intro y0 y1 y2 y3
   unfold qAW.l0
   repeat' first | (with_reducible first | apply aN | apply qAT.mono | apply qAP.mono | apply lr | apply ln | apply li | refine lb ?_ fun _ => ?_)
theorem qAW.mono : ∀ a0 k, LeO (qAW.f k a0) (qAW.f (k + 1) a0) := by
 intro a0 k
 have aN := qAW.mono_l k
 unfold qAW.f
 repeat' first | (with_reducible first | apply aN | apply qAT.mono | apply qAP.mono | apply lr | apply ln | apply li | refine lb ?_ fun _ => ?_)
theorem qAW.calls (k : Nat) (A0 : Option Addr) (c0 : Nat) (l0 : List (List Int)) (r : Bool) (w : World) (aS : Kd.C (Kd.slice 3 (Kd.int .i64)) w A0 l0.length l0) (hc0 : l0.length ≤ c0) (h : qAW.f k l0 = some r) :
  Calls Try.prog 22 #[.slice A0 l0.length c0] w fun e w' => e = .returned (.bool r) ∧ Below w.heap.size w w' := by
 have aW := am aS
 have aV := am hc0
 clear aS hc0
 have HB := am (Below.refl w.heap.size w)
 have H := h
 unfold qAW.f at H
 clear h
 replace H := bnd H
 obtain ⟨ae, A2, H⟩ := H
 (try dsimp only at H)
 have H' := am H
 clear H
 go_enter Try.func22, Try.ntmps22
 go_wp2_with (first | ((with_reducible refine qBO (f := 39) rfl ?_); refine gC 7 Try.func39 _ (qAT.calls k (fun k_ => k_ < w.heap.size) _ _ l0 ae _ (Kd.V_mk aV.1 (Kd.F_below (Kd.C_F (Kd.heap_slice 3 (Kd.heap_int .i64)) aW.1) pbl)) A2.1) ?_; rintro e w3 ⟨a4, rfl, ax, hb⟩; refine ⟨_, rfl, ?_⟩; have ay := am (Kd.N_lower (Kd.N_mono (ok' := fun k_ => True) ax (fun k_ hk_ => trivial)) (qBJ pbl)); replace HB := bsl hb; (try clear hb); (try clear ax); obtain ⟨aP, aR, a2⟩ := Kd.N_slice ay.1; subst a2))
 go_loopg [10] k (fun kq a3 w' => ∃ (aa : Int), a3 = .int .i64 aa ∧ Aside0 (qAW.l0 kq ae ae (ae.length : Int) aa = some r) ∧ Aside0 (kq ≤ k) ∧ Aside0 (Kd.N (Kd.slice 3 (Kd.int .i64)) 39 w' w.heap.size (fun _ => True) (.slice aP ae.length aR) ae) ∧ Aside0 (Kd.N (Kd.slice 3 (Kd.int .i64)) 39 w' w.heap.size (fun _ => True) (.slice aP ae.length aR) ae) ∧ Aside0 (Below w.heap.size w w'))
 case atStart => exact ⟨(0), prs, H', ⟨Nat.le_refl _⟩, ⟨pkn ay.1⟩, ⟨pkn ay.1⟩, ⟨pbg⟩⟩
 clear H'
 obtain ⟨aa, rfl, HA, aQ, aA, ak, HB⟩ := hrel
 obtain _ | k1 := gk
 ·exact absurd HA.1 (by simp [qAW.l0])
 have H := HA.1
 clear HA
 simp only [qAW.l0] at H
 replace H := ifl H
 rcases H with ⟨aI, H⟩ | ⟨aI, H⟩
 rotate_left
 ·obtain rfl := Option.some.inj H
  go_wp2
  go_ret
  exact ⟨per, pbg⟩
 replace H := ifd H
 obtain ⟨aX, H⟩ := H
 replace H := ifd H
 obtain ⟨aY, H⟩ := H
 replace H := bnd H
 obtain ⟨au, A8, H⟩ := H
 (try dsimp only at H)
 by_cases c9 : (au.length : Int) < ((rd_L11 ae aa).length : Int)
 ·rw [if_pos c9] at H
  have aJ : decide ((au.length : Int) < ((rd_L11 ae aa).length : Int)) = true := decide_eq_true c9
  have aK : decide (au.length < (rd_L11 ae aa).length) = true := decide_eq_true (Int.ofNat_lt.mp c9)
  clear c9
  obtain rfl := Option.some.inj H
  have aq : 0 ≤ (aa : Int) := dq
  have ar : aa < (ae.length : Int) := dq
  obtain ⟨aG, aD, aE, aF, ap, aj, ai⟩ := at_L11 (Kd.qBS ak.1).2.2 aa aq ar
  cases aF
  obtain ⟨aH, aw, av, al⟩ := Kd.N_get ak.1 [] aa aq (by first | exact ar | exact dq | (have e_ := (Kd.qBS ak.1).1; omega))
  obtain ⟨aB, aC, rfl, ag, af⟩ := Kd.qBV av
  have ac := al 0 _ rfl
  rw [Nat.add_zero, show ((Kd.slice 3 (Kd.int .i64))).sz = 1 from rfl, Nat.mul_one] at ac
  replace ac := Option.some.inj (ac.symm.trans ap)
  injection ac with hva_ hvn_ hvc_
  rw [hva_] at af
  rw [hvc_] at ag
  have ah := am (show Kd.V (Kd.int .i64) 3 _ w.heap.size _ _ (rd_L11 ae aa) from Kd.V_mk ag af)
  clear hva_ hvn_ hvc_ af ag al aw
  have ab := am ai
  have ao := am aj
  clear ai aj
  replace aq := eq_true aq
  replace ar := eq_true ar
  go_wp2_with (first | ((with_reducible refine qBO (f := 44) rfl ?_); refine gC 15 Try.func44 _ (qAP.calls k1 _ _ (rd_L11 ae aa) au _ ?side1 ?side2 A8.1) ?_; (case side1 => exact csd ab.1); (case side2 => exact ao.1); rintro e a5 ⟨aO, rfl, ax, hb⟩; refine ⟨_, rfl, ?_⟩; have az := am (Kd.qCH ax (qBJ pbl)); replace aA := am (Kd.qBX (pkn aA.1) (Kd.R_base ax) hb); replace ak := am (Kd.qBX (pkn ak.1) (Kd.R_base ax) hb); replace ah := am (Kd.qBY (pkv ah.1) (Kd.R_base ax) hb); replace ab := cbb ab hb; replace HB := bsl hb; (try clear hb); (try clear ax); obtain ⟨aT, aZ, aL⟩ := Kd.R_slice az.1; subst aL))
  go_ret
  exact ⟨per, pbg⟩
 rw [if_neg c9] at H
 have aJ : decide ((au.length : Int) < ((rd_L11 ae aa).length : Int)) = false := decide_eq_false c9
 have aK : decide (au.length < (rd_L11 ae aa).length) = false := decide_eq_false (fun h => c9 (Int.ofNat_lt.mpr h))
 clear c9
 have H' := am H
 clear H
 have aq : 0 ≤ (aa : Int) := dq
 have ar : aa < (ae.length : Int) := dq
 obtain ⟨aG, aD, aE, aF, ap, aj, ai⟩ := at_L11 (Kd.qBS ak.1).2.2 aa aq ar
 cases aF
 obtain ⟨aH, aw, av, al⟩ := Kd.N_get ak.1 [] aa aq (by first | exact ar | exact dq | (have e_ := (Kd.qBS ak.1).1; omega))
 obtain ⟨aB, aC, rfl, ag, af⟩ := Kd.qBV av
 have ac := al 0 _ rfl
 rw [Nat.add_zero, show ((Kd.slice 3 (Kd.int .i64))).sz = 1 from rfl, Nat.mul_one] at ac
 replace ac := Option.some.inj (ac.symm.trans ap)
 injection ac with hva_ hvn_ hvc_
 rw [hva_] at af
 rw [hvc_] at ag
 have ah := am (show Kd.V (Kd.int .i64) 3 _ w.heap.size _ _ (rd_L11 ae aa) from Kd.V_mk ag af)
 clear hva_ hvn_ hvc_ af ag al aw
 have ab := am ai
 have ao := am aj
 clear ai aj
 replace aq := eq_true aq
 replace ar := eq_true ar
 go_wp2_with (first | ((with_reducible refine qBO (f := 44) rfl ?_); refine gC 15 Try.func44 _ (qAP.calls k1 _ _ (rd_L11 ae aa) au _ ?side1 ?side2 A8.1) ?_; (case side1 => exact csd ab.1); (case side2 => exact ao.1); rintro e a6 ⟨aO, rfl, ax, hb⟩; refine ⟨_, rfl, ?_⟩; have az := am (Kd.qCH ax (qBJ pbl)); replace aA := am (Kd.qBX (pkn aA.1) (Kd.R_base ax) hb); replace ak := am (Kd.qBX (pkn ak.1) (Kd.R_base ax) hb); replace ah := am (Kd.qBY (pkv ah.1) (Kd.R_base ax) hb); replace ab := cbb ab hb; replace HB := bsl hb; (try clear hb); (try clear ax); obtain ⟨aU, a1, aM⟩ := Kd.R_slice az.1; subst aM))
 go_roundg k1
 case measure => have := aQ.1; omega
 case rel => exact ⟨(wrap64 (aa + 1)), prs, H', ⟨by have := aQ.1; omega⟩, ⟨nmo aA.1 (fun _ hk => trivial)⟩, ⟨nmo ak.1 (fun _ hk => trivial)⟩, ⟨pbg⟩⟩

/-! ### r04_Same: function 19 -/
def r04_Same.l0 : Nat → List Int → List Int → Int → Option (Bool)
 | 0, _, _, _ => none
 | k + 1, x0, x1, x5 => if x5 < (x0.length : Int) then (if 0 ≤ x5 then (if x5 < (x1.length : Int) then (if (rd x0 x5) = (rd x1 x5) then (r04_Same.l0 k x0 x1 (wrap64 (x5 + 1))) else (some false)) else (none)) else (none)) else (some true)
def r04_Same.f (k : Nat) (l0 : List Int) (l1 : List Int) : Option (Bool) := if (l0.length : Int) = (l1.length : Int) then (r04_Same.l0 k l0 l1 0) else (some false)
theorem r04_Same.calls (k : Nat) (A0 : Option Addr) (c0 : Nat) (l0 : List Int) (A1 : Option Addr) (c1 : Nat) (l1 : List Int) (r : Bool) (w : World) (aB : Kd.C (Kd.int .i64) w A0 l0.length l0) (hc0 : l0.length ≤ c0) (hr1 : Kd.C (Kd.int .i64) w A1 l1.length l1) (aA : l1.length ≤ c1) (h : r04_Same.f k l0 l1 = some r) :
  Calls Try.prog 19 #[.slice A0 l0.length c0, .slice A1 l1.length c1] w fun e w' => e = .returned (.bool r) ∧ Drawn0 w w' := by
 have ay := am aB
 have aE := am hc0
 clear aB hc0
 have az := am hr1
 have aF := am aA
 clear hr1 aA
 have H := h
 unfold r04_Same.f at H
 clear h
 by_cases c3 : (l0.length : Int) = (l1.length : Int)
 rotate_left
 ·rw [if_neg c3] at H
  have ai : ((l0.length : Int) == (l1.length : Int)) = false := beq_eq_false_iff_ne.mpr c3
  have aj : ((l0.length : Int) != (l1.length : Int)) = true := bne_iff_ne.mpr c3
  have ak : (l0.length == l1.length) = false := by first | simpa using c3 | (simp at c3 ⊢; omega)
  obtain rfl := Option.some.inj H
  go_enter Try.func19, Try.ntmps19
  go_wp2
  repeat (go_quiet (fail); try go_wp2)
  go_ret
  exact ⟨prs, pdr⟩
 rw [if_pos c3] at H
 have ai : ((l0.length : Int) == (l1.length : Int)) = true := beq_iff_eq.mpr c3
 have aj : ((l0.length : Int) != (l1.length : Int)) = false := bne_eq_false_iff_eq.mpr c3
 have ak : (l0.length == l1.length) = true := by first | simpa using c3 | (simp at c3 ⊢; omega)
 clear c3
 have H' := am H
 clear H
 go_enter Try.func19, Try.ntmps19
 go_wp2
 repeat (go_quiet (fail); try go_wp2)
 go_loopg [5] k (fun kq v5 w' => ∃ (aa : Int), v5 = .int .i64 aa ∧ Aside0 (r04_Same.l0 kq l0 l1 aa = some r) ∧ Aside0 (kq ≤ k) ∧ Drawn0 w w')
 case atStart => exact ⟨(0), prs, H', ⟨Nat.le_refl _⟩, pdr⟩
 clear H'
 try clear c1 c3 ai aj ak
 obtain ⟨aa, rfl, HA, ax, ⟨m1, rfl⟩⟩ := hrel
 obtain _ | k1 := gk
 ·exact absurd HA.1 (by simp [r04_Same.l0])
 have H := HA.1
 clear HA
 simp only [r04_Same.l0] at H
 replace H := ifl H
 rcases H with ⟨al, H⟩ | ⟨al, H⟩
 rotate_left
 ·obtain rfl := Option.some.inj H
  go_wp2
  repeat (go_quiet (fail); try go_wp2)
  go_ret
  exact ⟨prs, pdr⟩
 replace H := ifd H
 obtain ⟨aC, H⟩ := H
 replace H := ifd H
 obtain ⟨aD, H⟩ := H
 replace H := ife H
 rcases H with ⟨ao, ap, H⟩ | ⟨ao, ap, H⟩
 rotate_left
 ·obtain rfl := Option.some.inj H
  obtain ⟨ar, av, ag, ae, ab⟩ := dint ay.1 aa
  cases ae
  obtain ⟨au, aw, ah, af, ac⟩ := dint az.1 aa
  cases af
  go_wp2
  repeat (go_quiet (fail); try go_wp2)
  go_ret
  exact ⟨prs, pdr⟩
 have H' := am H
 clear H
 obtain ⟨ar, av, ag, ae, ab⟩ := dint ay.1 aa
 cases ae
 obtain ⟨au, aw, ah, af, ac⟩ := dint az.1 aa
 cases af
 go_wp2
 repeat (go_quiet (fail); try go_wp2)
 go_roundg k1
 case measure => have := ax.1; omega
 case rel => exact ⟨(wrap64 (aa + 1)), prs, H', ⟨by have := ax.1; omega⟩, pdr⟩

/-! ### qBD: function 62 -/
-- IMPORTS Derived.RegionTactic,Derived.BigRegion,Derived.Laws.EntriesVeiled
/-- The names so far, in a variable of the call's own; what else stood there stays. -/
structure NInv (w0 w : World) (Bn : Nat) (ns : List ByteArray) : Prop where
 t : ∃ v, w.heap[Bn]? = some (.cells #[v] 109 (0, 0)) ∧ Kd.R Kd.string 9 w w0.heap.size (fun _ => True) v ns
 B : Below w0.heap.size w0 w
 b : w0.heap.size ≤ Bn
def Others (w w1 : World) : Prop := w.heap.size ≤ w1.heap.size ∧ ∀ (a : Nat) (c : Array Value) (t : Nat), w.heap[a]? = some (.cells c t (0, 0)) → t ≠ 109 → t ≠ 9 → w1.heap[a]? = some (.cells c t (0, 0))
theorem Others.trans {a b c : World} (h : Others a b) (k : Others b c) : Others a c := ⟨Nat.le_trans h.1 k.1, fun x cs t h1 h2 h3 => k.2 x cs t (h.2 x cs t h1 h2 h3) h2 h3⟩
theorem Others.below {w w1 : World} (hb : Below w.heap.size w w1) : Others w w1 := ⟨hb.size, fun a c t h _ _ => qCF h hb⟩
theorem NInv.below {w0 w w1 : World} {Bn : Nat} {ns : List ByteArray} (h : NInv w0 w Bn ns) (hb : Below w.heap.size w w1) : NInv w0 w1 Bn ns := by
 obtain ⟨⟨v, h1, h2⟩, B, b⟩ := h
 exact ⟨⟨v, qCF h1 hb, Kd.R_below h2 hb⟩, B.trans (hb.mono B.size), b⟩
theorem NInv.push {w0 w w1 : World} {Bn : Nat} {ns ns' : List ByteArray} (h : NInv w0 w Bn ns) {v v1 : Value} (hT : Kd.R Kd.string 9 w w0.heap.size (fun _ => True) v ns)
  (h1 : Kd.R Kd.string 9 w1 w0.heap.size (fun _ => True) v1 ns') (hb : Below w0.heap.size w0 w1) (hg : w.grownBy w1 v.ownBlock) : NInv w0 (w1.setCell ⟨Bn, 0, none⟩ v1) Bn ns' ∧ Others w (w1.setCell ⟨Bn, 0, none⟩ v1) ∧ w1.cell? ⟨Bn, 0, none⟩ ≠ none ∧ w1.frozen? ⟨Bn, 0, none⟩ = false := by
 obtain ⟨⟨vt, h3, h4⟩, B, b⟩ := h
 have e3 := grown_blk h3 (Kd.R_typed hT) (by decide) hg
 refine ⟨⟨⟨v1, one_setCell e3, Kd.R_set h1 e3 (by decide) _ _⟩, qCN hb b, b⟩, ⟨by simpa using hg.size, fun a c t ha t1 t2 => ?_⟩, by rw [cell_of_one e3]; simp, free_of_one e3⟩
 have ea := grown_blk ha (Kd.R_typed hT) t2 hg
 exact blk_over ea (blk_apart ea e3 t1) _
/-- One more name: an error, or the names with it. -/
def addM (ns : List ByteArray) (s : ByteArray) : Option (Int × List ByteArray) :=
 if nameB s = true then (if (ns.any fun o => o.toList == s.toList) = true then some (6, ns) else (if ns.length < 1000000 then some (0, ns ++ [s]) else none)) else some (5, ns)
theorem any_step (ns : List ByteArray) (s : ByteArray) (i : Nat) (hi : i < ns.length) : ((ns.drop i).any fun o => o.toList == s.toList) = (((rdOf ByteArray.empty ns (i : Int)).toList == s.toList) || ((ns.drop (i + 1)).any fun o => o.toList == s.toList)) := by
 rw [List.drop_eq_getElem_cons hi, List.any_cons]
 unfold rdOf
 rw [Int.toNat_natCast, List.getD_eq_getElem?_getD, List.getElem?_eq_getElem hi]
 rfl

theorem add_calls (w0 w : World) (Bn : Nat) (ns : List ByteArray) (s : ByteArray) (p : Int × List ByteArray) (h : NInv w0 w Bn ns) (hp : addM ns s = some p) :
  Calls Try.prog 93 #[.string s, .pointer (some ⟨Bn, 0, none⟩)] w fun e w' => e = .returned (.int .i64 p.1) ∧ NInv w0 w' Bn p.2 ∧ Others w w' := by
 have HV := Aside0.mk h
 clear h
 unfold addM at hp
 by_cases c1 : nameB s = true
 case neg =>
  rw [if_neg c1] at hp
  cases hp
  have HN := Aside0.mk (show net_Name.f s = some false by unfold net_Name.f; rw [Bool.not_eq_true] at c1; rw [c1])
  clear c1
  go_enter Try.func93, Try.ntmps93
  go_wp2_with (first | (go_at_call 92; refine (net_Name.calls _ _ _ HN.out).mono ?_; rintro e w' ⟨rfl, hb⟩; have HB := Aside0.mk hb; clear hb))
  go_ret
  exact ⟨rfl, HV.out.below HB.out, Others.below HB.out⟩
 rw [if_pos c1] at hp
 have HN := Aside0.mk (show net_Name.f s = some true by unfold net_Name.f; rw [c1])
 have HP := Aside0.mk hp
 clear c1 hp
 go_enter Try.func93, Try.ntmps93
 go_wp2_with (first | (go_at_call 92; refine (net_Name.calls _ _ _ HN.out).mono ?_; rintro e w1 ⟨rfl, hb⟩; have aA := Aside0.mk (HV.out.below hb); have aJ := Aside0.mk (Others.below hb); obtain ⟨vt, aQ, aR⟩ := aA.out.t; obtain ⟨At, ct, rfl⟩ := Kd.R_slice aR; have a7 := cell_of_one aQ; have HC := Aside0.mk aQ; have HT := Aside0.mk aR; clear hb aQ aR))
 clear HV
 have HD := Aside0.mk (show (ns.any fun o => o.toList == s.toList) = ((ns.drop 0).any fun o => o.toList == s.toList) by rw [List.drop_zero])
 go_loopg [11] ns.length (fun kq bf w' => ∃ i : Nat, bf = .int .i64 i ∧ Aside0 (kq = ns.length - i) ∧ Aside0 (i ≤ ns.length) ∧ Aside0 ((ns.any fun o => o.toList == s.toList) = ((ns.drop i).any fun o => o.toList == s.toList)) ∧ Aside0 (w'.heap[Bn]? = some (.cells #[.slice At ns.length ct] 109 (0, 0))) ∧ Aside0 (Kd.R Kd.string 9 w' w0.heap.size (fun _ => True) (.slice At ns.length ct) ns) ∧ Aside0 (NInv w0 w' Bn ns) ∧ Aside0 (Others w w'))
 case atStart => exact ⟨0, rfl, ⟨rfl⟩, ⟨Nat.zero_le _⟩, HD, HC, HT, aA, aJ⟩
 case round =>
  clear HD HC HT aA aJ a7
  obtain ⟨i, rfl, HK, HI, HD, HC, HT, aA, aJ⟩ := hrel
  by_cases d1 : i < ns.length
  ·have d1b : decide ((i : Int) < (ns.length : Int)) = true := decide_eq_true (by omega)
   have d1c : decide (i < ns.length) = true := decide_eq_true d1
   obtain ⟨gt, gc, eg, _, _, _⟩ := Kd.R_form HT.out (by omega)
   injection eg with eg _ a8
   subst eg a8
   obtain ⟨y1, y2⟩ := Kd.R_celln ByteArray.empty HT.out (i : Int) (by omega) (by omega)
   have HS := Aside0.mk (any_step ns s i d1)
   have D1 := Aside0.mk d1
   rw [Int.toNat_natCast] at y1 y2
   have HM := Aside0.mk (Kd.qBR HT.out).2.2.2.1
   cases d2 : ((rdOf ByteArray.empty ns (i : Int)).toList == s.toList) with
   | true =>
    have aN := Aside0.mk (show p = (6, ns) by
     have hp := HP.out
     rw [HD.out, HS.out, d2] at hp
     simpa using hp.symm)
    clear HP
    go_wp2
    go_ret
    have e_ := aN.out
    subst e_
    exact ⟨rfl, aA.out, aJ.out⟩
   | false =>
    go_wp2
    go_roundg (ns.length - (i + 1))
    case measure => have := HK.out; have := D1.out; omega
    case rel => exact ⟨i + 1, by congr 1; have := HM.out; have := D1.out; (first | omega | (unfold wrap64; omega) | (show wrap64 _ = _; unfold wrap64; omega)), ⟨rfl⟩, ⟨D1.out⟩, ⟨by rw [HD.out, HS.out, d2, Bool.false_or]⟩, HC, HT, aA, aJ⟩
  ·have d1b : decide ((i : Int) < (ns.length : Int)) = false := decide_eq_false (by omega)
   have d1c : decide (i < ns.length) = false := decide_eq_false d1
   have hp := HP.out
   have hd : (ns.any fun o => o.toList == s.toList) = false := by rw [HD.out, List.drop_eq_nil_of_le (by omega)]; rfl
   rw [hd, if_neg Bool.false_ne_true] at hp
   by_cases d3 : ns.length < 1000000
   case neg => rw [if_neg d3] at hp; cases hp
   rw [if_pos d3] at hp
   have aN := Aside0.mk (Option.some.inj hp).symm
   have D3 := Aside0.mk d3
   have cb := cell_of_one HC.out
   clear hp hd HP d3
   go_wp2_with (first
    | ((with_reducible refine qBQ (b := .append) (xs := #[.tmp 19, .tmp 21]) rfl ?_); at_builtin; refine Kd.R_append Kd.string (w0 := w0) w0.heap.size rfl (.tmp 19) (.tmp 21) 109 9 (.string ⟨#[]⟩) 16 rfl Try.underlying109 info9 rfl (by decide) (by omega) (.slice At ns.length ct) ns s [.string s] (fun _ => True) (fun _ => False) rfl rfl ?aP (fun _ hk => hk.elim) ?aF ?aO ?aB ?aS ?aL ?_; (case aP => exact rfl); (case aF => exact (fun _ _ => trivial)); (case aO => exact HT.out); (case aB => exact aA.out.B); (case aS => exact aA.out.B.size); (case aL => have := D3.out; omega); intro v2 w2 ho hb hg hat; obtain ⟨A2, k2, rfl⟩ := Kd.R_slice ho; have HX := Aside0.mk (NInv.push aA.out HT.out ho hb hg); obtain ⟨c2, bk⟩ := Option.ne_none_iff_exists'.mp HX.out.2.2.1; have hf2 := HX.out.2.2.2; clear ho hb hg hat))
   go_ret
   have e_ := aN.out
   subst e_
   have x_ := HX.out
   rw [List.length_append] at x_
   exact ⟨rfl, x_.1, aJ.out.trans x_.2.1⟩

def qBD.l1 : Nat → List S64 → List S38 → List ByteArray → Int → Option (Int × Int)
 | 0, _, _, _, _ => none
 | k + 1, l1, l2, ns, i => if i < (l2.length : Int) then (if 0 ≤ i then ((addM ns (rd_T38 l2 i).f0).bind fun p => if p.1 = 0 then ((qBC.f k (rd_T38 l2 i).f0 (rd_T38 l2 i).f1 (rd_T38 l2 i).f2 (rd_T38 l2 i).f3 (rd_T38 l2 i).f4 (l1.length : Int)).bind fun e => if e = 0 then qBD.l1 k l1 l2 p.2 (wrap64 (i + 1)) else some (e, wrap64 ((l1.length : Int) + i))) else some (p.1, wrap64 ((l1.length : Int) + i))) else none) else some (0, 0)
def qBD.l0 : Nat → List S64 → List S38 → List ByteArray → Int → Option (Int × Int)
 | 0, _, _, _, _ => none
 | k + 1, l1, l2, ns, i => if i < (l1.length : Int) then (if 0 ≤ i then ((addM ns (rd_T64 l1 i).f0).bind fun p => if p.1 = 0 then ((net_checkPlace.f (rd_T64 l1 i).f0 (rd_T64 l1 i).f1 (rd_T64 l1 i).f2).bind fun e => if e = 0 then qBD.l0 k l1 l2 p.2 (wrap64 (i + 1)) else some (e, i)) else some (p.1, i)) else none) else qBD.l1 k l1 l2 ns 0
def qBD.f (k : Nat) (ac : ByteArray) (aa : List (S64)) (ab : List (S38)) : Option (Int × Int) := if nameB ac = true then (if (aa.length : Int) < 1 ∨ (24 : Int) < (aa.length : Int) ∨ (24 : Int) < (ab.length : Int) then some (2, 0) else qBD.l0 k aa ab [] 0) else some (5, 0)
theorem qBD.mono_l : ∀ k, (∀ y0 y1 y2 y3, LeO (qBD.l0 k y0 y1 y2 y3) (qBD.l0 (k + 1) y0 y1 y2 y3)) ∧ (∀ y0 y1 y2 y3, LeO (qBD.l1 k y0 y1 y2 y3) (qBD.l1 (k + 1) y0 y1 y2 y3))
 | 0 => ⟨fun _ _ _ _ r h => by simp [qBD.l0] at h, fun _ _ _ _ r h => by simp [qBD.l1] at h⟩
 | k + 1 => by
  obtain ⟨bc, a6⟩ := qBD.mono_l k
  refine ⟨?_, ?_⟩
  ·intro y0 y1 y2 y3
   unfold qBD.l0
   repeat' first | exact bc _ _ _ _ | exact a6 _ _ _ _ | exact LeO.refl _ | exact LeO.none _ | refine LeO.ite ?_ ?_ | refine LeO.bind (LeO.refl _) (fun _ => ?_)
  ·intro y0 y1 y2 y3
   unfold qBD.l1
   repeat' first | exact a6 _ _ _ _ | exact qBC.mono _ _ _ _ _ _ _ | exact LeO.refl _ | exact LeO.none _ | refine LeO.ite ?_ ?_ | refine LeO.bind (LeO.refl _) (fun _ => ?_) | refine LeO.bind (qBC.mono _ _ _ _ _ _ _) (fun _ => ?_)
theorem qBD.mono : ∀ a0 a1 a2 k, LeO (qBD.f k a0 a1 a2) (qBD.f (k + 1) a0 a1 a2) := by
 intro a0 a1 a2 k
 unfold qBD.f
 exact LeO.ite (LeO.ite (LeO.refl _) ((qBD.mono_l k).1 _ _ _ _)) (LeO.refl _)
/-- What stands while a net is checked: the net, the result, the names. -/
structure KInv (w0 w : World) (Bx Br Bn : Nat) (net : Array Value) (ns : List ByteArray) : Prop where
 nv : NInv w0 w Bn ns
 bx : w.heap[Bx]? = some (.cells net 25 (0, 0))
 br : w.heap[Br]? = some (.cells #[.int .i64 0, .int .i64 0] 48 (0, 0))
 rb : w0.heap.size ≤ Br
theorem KInv.move {w0 w w1 : World} {Bx Br Bn : Nat} {net : Array Value} {ns ns' : List ByteArray} (h : KInv w0 w Bx Br Bn net ns) (hn : NInv w0 w1 Bn ns') (o : Others w w1) : KInv w0 w1 Bx Br Bn net ns' := ⟨hn, o.2 _ _ _ h.bx (by decide) (by decide), o.2 _ _ _ h.br (by decide) (by decide), h.rb⟩
theorem KInv.below {w0 w w1 : World} {Bx Br Bn : Nat} {net : Array Value} {ns : List ByteArray} (h : KInv w0 w Bx Br Bn net ns) (hb : Below w.heap.size w w1) : KInv w0 w1 Bx Br Bn net ns := h.move (h.nv.below hb) (Others.below hb)
theorem heapArc : Kd.Heap k68 := Kd.heap_iso _ (Kd.heap_pair (Kd.heap_int _) (Kd.heap_int _))
/-- The result is written. -/
theorem res_put {W : World} {Br : Nat} {x y a b : Int} (h : W.heap[Br]? = some (.cells #[.int .i64 x, .int .i64 y] 48 (0, 0))) : ((W.setCell ⟨Br, 0, none⟩ (.int .i64 a)).setCell ⟨Br, 1, none⟩ (.int .i64 b)).heap[Br]? = some (.cells #[.int .i64 a, .int .i64 b] 48 (0, 0)) :=
 blk_put (cs := #[.int .i64 a, .int .i64 y]) (blk_put (cs := #[.int .i64 x, .int .i64 y]) h 0 _ rfl) 1 _ rfl
theorem res_facts {W : World} {Br : Nat} (h : W.heap[Br]? = some (.cells #[.int .i64 0, .int .i64 0] 48 (0, 0))) : W.cell? ⟨Br, 0, none⟩ = some (.int .i64 0) ∧ W.cell? ⟨Br, 1, none⟩ = some (.int .i64 0) ∧ W.frozen? ⟨Br, 0, none⟩ = false ∧ W.frozen? ⟨Br, 1, none⟩ = false := ⟨(qBI h 0).trans rfl, (qBI h 1).trans rfl, qCJ h 0, qCJ h 1⟩
theorem net_facts {W : World} {B : Nat} {x y z : Value} (h : W.heap[B]? = some (.cells #[x, y, z] 25 (0, 0))) : W.cell? ⟨B, 0, none⟩ = some x ∧ W.cell? ⟨B, 1, none⟩ = some y ∧ W.cell? ⟨B, 2, none⟩ = some z := ⟨(qBI h 0).trans rfl, (qBI h 1).trans rfl, (qBI h 2).trans rfl⟩
theorem place_facts {W : World} {B : Nat} {x y z : Value} (h : W.heap[B]? = some (.cells #[x, y, z] 64 (0, 0))) : W.cell? ⟨B, 0, none⟩ = some x ∧ W.cell? ⟨B, 1, none⟩ = some y ∧ W.cell? ⟨B, 2, none⟩ = some z := ⟨(qBI h 0).trans rfl, (qBI h 1).trans rfl, (qBI h 2).trans rfl⟩
theorem trans_facts {W : World} {B : Nat} {x y z u v : Value} (h : W.heap[B]? = some (.cells #[x, y, z, u, v] 38 (0, 0))) : W.cell? ⟨B, 0, none⟩ = some x ∧ W.cell? ⟨B, 1, none⟩ = some y ∧ W.cell? ⟨B, 2, none⟩ = some z ∧ W.cell? ⟨B, 3, none⟩ = some u ∧ W.cell? ⟨B, 4, none⟩ = some v := ⟨(qBI h 0).trans rfl, (qBI h 1).trans rfl, (qBI h 2).trans rfl, (qBI h 3).trans rfl, (qBI h 4).trans rfl⟩

theorem qBD.calls (k : Nat) (ac : ByteArray) (af : Option Addr) (ah : Nat) (aa : List (S64)) (ag : Option Addr) (ai : Nat) (ab : List (S38)) (r1 : Int) (r2 : Int) (w : World) (aE : Kd.C k64 w af aa.length aa) (aC : aa.length ≤ ah) (aG : Kd.C k38 w ag ab.length ab) (aD : ab.length ≤ ai) (h : qBD.f k ac aa ab = some (r1, r2)) :
  Calls Try.prog 62 #[.agg #[.string ac, .slice af aa.length ah, .slice ag ab.length ai]] w fun e w' => e = .returned (.agg #[.int .i64 r1, .int .i64 r2]) ∧ Below w.heap.size w w' := by
 have bl := Try.underlying25
 have hu2 := Try.underlying48
 have bm := Try.underlying64
 have bn := Try.underlying38
 have aU := Aside0.mk aE
 have bi := Aside0.mk aC
 have aV := Aside0.mk aG
 have bj := Aside0.mk aD
 clear aE aC aG aD
 have W1 : (w.alloc (.cells #[.string ac, .slice af aa.length ah, .slice ag ab.length ai] 25)).heap[w.heap.size]? = some (.cells #[.string ac, .slice af aa.length ah, .slice ag ab.length ai] 25 (0, 0)) := alloc_new _ _
 have hs1 : (w.alloc (.cells #[.string ac, .slice af aa.length ah, .slice ag ab.length ai] 25)).heap.size = w.heap.size + 1 := by simp
 obtain ⟨w2, aM⟩ : ∃ w2 : World, w2 = (w.alloc (.cells #[.string ac, .slice af aa.length ah, .slice ag ab.length ai] 25)).alloc (.cells #[.int .i64 0, .int .i64 0] 48) := ⟨_, rfl⟩
 have aI := Aside0.mk (show w2.heap[w.heap.size]? = some (.cells #[.string ac, .slice af aa.length ah, .slice ag ab.length ai] 25 (0, 0)) by rw [aM]; exact qCF W1 (qCA (Below.refl _ _) _))
 have aH := Aside0.mk (show w2.heap[w.heap.size + 1]? = some (.cells #[.int .i64 0, .int .i64 0] 48 (0, 0)) by rw [aM, ← hs1]; exact alloc_new _ _)
 have ay := Aside0.mk (show Below w.heap.size w w2 by rw [aM]; exact qCA (qCA (Below.refl _ _) _) _)
 obtain ⟨aY, aZ, a3⟩ := net_facts aI.out
 obtain ⟨aW, aX, a4, a5⟩ := res_facts aH.out
 rw [aM] at aY aZ a3 aW aX a4 a5
 have aK := Aside0.mk aM
 clear W1 hs1 aM
 unfold qBD.f at h
 by_cases n1 : nameB ac = true
 case neg =>
  rw [if_neg n1] at h
  simp only [Option.some.injEq, Prod.mk.injEq] at h
  obtain ⟨rfl, rfl⟩ := h
  have HN := Aside0.mk (show net_Name.f ac = some false by unfold net_Name.f; rw [Bool.not_eq_true] at n1; rw [n1])
  clear n1
  go_enter Try.func62, Try.ntmps62
  go_wp2_with (first | (go_at_call 92; refine (net_Name.calls _ _ _ HN.out).mono ?_; rintro e w3 ⟨rfl, hb⟩; rw [← aK.out] at hb; have au := Aside0.mk (qCF aI.out hb); have ap := Aside0.mk (qCF aH.out hb); have az := Aside0.mk (ay.out.trans (hb.mono ay.out.size)); obtain ⟨av, aw, ax⟩ := net_facts au.out; obtain ⟨aj, ak, al, ao⟩ := res_facts ap.out; clear hb))
  refine bodyPost_ret (results_cell_row rfl _ _ (w.heap.size + 1) 48 #[.int .i64 5, .int .i64 0] (0, 0) _ rfl (res_put ap.out) Try.underlying48 rfl (by kernel_rfl)) rfl ?_
  exact ⟨rfl, qCN (qCN az.out (Nat.le_succ _)) (Nat.le_succ _)⟩
 rw [if_pos n1] at h
 have HN := Aside0.mk (show net_Name.f ac = some true by unfold net_Name.f; rw [n1])
 clear n1
 by_cases z : (aa.length : Int) < 1 ∨ (24 : Int) < (aa.length : Int) ∨ (24 : Int) < (ab.length : Int)
 case pos =>
  rw [if_pos z] at h
  simp only [Option.some.injEq, Prod.mk.injEq] at h
  obtain ⟨rfl, rfl⟩ := h
  by_cases z1 : (aa.length : Int) < 1
  case pos =>
   have z1b : decide ((aa.length : Int) < 1) = true := decide_eq_true (by omega)
   have z1c : decide (aa.length < 1) = true := decide_eq_true (by omega)
   clear z
   go_enter Try.func62, Try.ntmps62
   go_wp2_with (first | (go_at_call 92; refine (net_Name.calls _ _ _ HN.out).mono ?_; rintro e w3 ⟨rfl, hb⟩; rw [← aK.out] at hb; have au := Aside0.mk (qCF aI.out hb); have ap := Aside0.mk (qCF aH.out hb); have az := Aside0.mk (ay.out.trans (hb.mono ay.out.size)); obtain ⟨av, aw, ax⟩ := net_facts au.out; obtain ⟨aj, ak, al, ao⟩ := res_facts ap.out; clear hb))
   refine bodyPost_ret (results_cell_row rfl _ _ (w.heap.size + 1) 48 #[.int .i64 2, .int .i64 0] (0, 0) _ rfl (res_put ap.out) Try.underlying48 rfl (by kernel_rfl)) rfl ?_
   exact ⟨rfl, qCN (qCN az.out (Nat.le_succ _)) (Nat.le_succ _)⟩
  have z1b : decide ((aa.length : Int) < 1) = false := decide_eq_false (by omega)
  have z1c : decide (aa.length < 1) = false := decide_eq_false (by omega)
  by_cases z2 : 24 < (aa.length : Int)
  case pos =>
   have z2b : decide (24 < (aa.length : Int)) = true := decide_eq_true (by omega)
   have z2c : decide (24 < aa.length) = true := decide_eq_true (by omega)
   clear z
   go_enter Try.func62, Try.ntmps62
   go_wp2_with (first | (go_at_call 92; refine (net_Name.calls _ _ _ HN.out).mono ?_; rintro e w3 ⟨rfl, hb⟩; rw [← aK.out] at hb; have au := Aside0.mk (qCF aI.out hb); have ap := Aside0.mk (qCF aH.out hb); have az := Aside0.mk (ay.out.trans (hb.mono ay.out.size)); obtain ⟨av, aw, ax⟩ := net_facts au.out; obtain ⟨aj, ak, al, ao⟩ := res_facts ap.out; clear hb))
   refine bodyPost_ret (results_cell_row rfl _ _ (w.heap.size + 1) 48 #[.int .i64 2, .int .i64 0] (0, 0) _ rfl (res_put ap.out) Try.underlying48 rfl (by kernel_rfl)) rfl ?_
   exact ⟨rfl, qCN (qCN az.out (Nat.le_succ _)) (Nat.le_succ _)⟩
  have z2b : decide (24 < (aa.length : Int)) = false := decide_eq_false (by omega)
  have z2c : decide (24 < aa.length) = false := decide_eq_false (by omega)
  have z3 : 24 < (ab.length : Int) := (z.resolve_left z1).resolve_left z2
  have z3b : decide (24 < (ab.length : Int)) = true := decide_eq_true (by omega)
  have z3c : decide (24 < ab.length) = true := decide_eq_true (by omega)
  clear z
  go_enter Try.func62, Try.ntmps62
  go_wp2_with (first | (go_at_call 92; refine (net_Name.calls _ _ _ HN.out).mono ?_; rintro e w3 ⟨rfl, hb⟩; rw [← aK.out] at hb; have au := Aside0.mk (qCF aI.out hb); have ap := Aside0.mk (qCF aH.out hb); have az := Aside0.mk (ay.out.trans (hb.mono ay.out.size)); obtain ⟨av, aw, ax⟩ := net_facts au.out; obtain ⟨aj, ak, al, ao⟩ := res_facts ap.out; clear hb))
  refine bodyPost_ret (results_cell_row rfl _ _ (w.heap.size + 1) 48 #[.int .i64 2, .int .i64 0] (0, 0) _ rfl (res_put ap.out) Try.underlying48 rfl (by kernel_rfl)) rfl ?_
  exact ⟨rfl, qCN (qCN az.out (Nat.le_succ _)) (Nat.le_succ _)⟩
 rw [if_neg z] at h
 have z1b : decide ((aa.length : Int) < 1) = false := decide_eq_false (by omega)
 have z1c : decide (aa.length < 1) = false := decide_eq_false (by omega)
 have z2b : decide (24 < (aa.length : Int)) = false := decide_eq_false (by omega)
 have z2c : decide (24 < aa.length) = false := decide_eq_false (by omega)
 have z3b : decide (24 < (ab.length : Int)) = false := decide_eq_false (by omega)
 have z3c : decide (24 < ab.length) = false := decide_eq_false (by omega)
 have hmf : ∀ (fn : Fn) (first cap : Array Value) (w : World), (Instr.makeFunc fn first cap).run Try.prog w = .ok (.func fn first cap) w := fun _ _ _ _ => rfl
 have H := Aside0.mk h
 clear h
 go_enter Try.func62, Try.ntmps62
 go_wp2_with (first | (go_at_call 92; refine (net_Name.calls _ _ _ HN.out).mono ?_; rintro e w3 ⟨rfl, hb⟩; rw [← aK.out] at hb; have au := Aside0.mk (qCF aI.out hb); have ap := Aside0.mk (qCF aH.out hb); have az := Aside0.mk (ay.out.trans (hb.mono ay.out.size)); obtain ⟨av, aw, ax⟩ := net_facts au.out; obtain ⟨aj, ak, al, ao⟩ := res_facts ap.out; clear hb; obtain ⟨a9, ba, bb⟩ := net_facts (qCF au.out (qCA (Below.refl _ _) (.cells #[.slice none 0 0] 109)))))
 have HK := Aside0.mk (show KInv w (w3.alloc (.cells #[.slice none 0 0] 109)) w.heap.size (w.heap.size + 1) w3.heap.size #[.string ac, .slice af aa.length ah, .slice ag ab.length ai] [] from ⟨⟨⟨.slice none 0 0, alloc_new _ _, Kd.R_nil _ _ _ _ _⟩, qCA az.out _, az.out.size⟩, qCF au.out (qCA (Below.refl _ _) _), qCF ap.out (qCA (Below.refl _ _) _), Nat.le_succ _⟩)
 obtain ⟨Bn, hBn⟩ : ∃ Bn, Bn = w3.heap.size := ⟨_, rfl⟩
 rw [← hBn] at HK ⊢
 clear a9 ba bb av aw ax aj ak al ao au ap az hBn aY aZ a3 aW aX a4 a5 aI aH ay aK z1b z1c z2b z2c z3b z3c z HN
 go_loopg [37] k (fun kq bg w' => ∃ (i : Int) (ns : List ByteArray), bg = .int .i64 i ∧ Aside0 (qBD.l0 kq aa ab ns i = some (r1, r2)) ∧ Aside0 (kq ≤ k) ∧ Aside0 (KInv w w' w.heap.size (w.heap.size + 1) Bn #[.string ac, .slice af aa.length ah, .slice ag ab.length ai] ns))
 case atStart => exact ⟨0, [], rfl, H, ⟨Nat.le_refl _⟩, HK⟩
 case round =>
  clear H HK
  obtain ⟨i, ns, rfl, HA, HJ, HK⟩ := hrel
  cases gk with
  | zero => exact absurd HA.out (by simp [qBD.l0])
  | succ k1 =>
  have H := HA.out
  clear HA
  simp only [qBD.l0] at H
  by_cases d1 : i < (aa.length : Int)
  case neg =>
   rw [if_neg d1] at H
   have d1b : decide (i < (aa.length : Int)) = false := decide_eq_false d1
   have H' := Aside0.mk H
   clear H d1
   obtain ⟨av, aw, ax⟩ := net_facts HK.out.bx
   go_wp2
   clear av aw ax d1b
   go_loopg [59] k1 (fun kq bh w' => ∃ (i : Int) (ns : List ByteArray), bh = .int .i64 i ∧ Aside0 (qBD.l1 kq aa ab ns i = some (r1, r2)) ∧ Aside0 (kq ≤ k1) ∧ Aside0 (KInv w w' w.heap.size (w.heap.size + 1) Bn #[.string ac, .slice af aa.length ah, .slice ag ab.length ai] ns))
   case atStart => exact ⟨0, ns, rfl, H', ⟨Nat.le_refl _⟩, HK⟩
   case round =>
    clear H' HK
    obtain ⟨i, ns, rfl, HA, aT, HK⟩ := hrel
    cases gk with
    | zero => exact absurd HA.out (by simp [qBD.l1])
    | succ k3 =>
    have H := HA.out
    clear HA
    simp only [qBD.l1] at H
    by_cases d1 : i < (ab.length : Int)
    case neg =>
     rw [if_neg d1] at H
     have d1b : decide (i < (ab.length : Int)) = false := decide_eq_false d1
     simp only [Option.some.injEq, Prod.mk.injEq] at H
     obtain ⟨rfl, rfl⟩ := H
     obtain ⟨aj, ak, al, ao⟩ := res_facts HK.out.br
     clear d1
     go_wp2
     refine bodyPost_ret (results_cell_row rfl _ _ (w.heap.size + 1) 48 #[.int .i64 0, .int .i64 0] (0, 0) _ rfl (res_put HK.out.br) Try.underlying48 rfl (by kernel_rfl)) rfl ?_
     exact ⟨rfl, qCN (qCN HK.out.nv.B (Nat.le_succ _)) (Nat.le_succ _)⟩
    rw [if_pos d1] at H
    have d1b : decide (i < (ab.length : Int)) = true := decide_eq_true d1
    by_cases d2 : 0 ≤ i
    case neg => rw [if_neg d2] at H; cases H
    rw [if_pos d2] at H
    obtain ⟨⟨p1, bd⟩, hp, H⟩ := Option.bind_eq_some_iff.mp H
    have HP := Aside0.mk hp
    clear hp
    obtain ⟨ad, A1, c1, A2, c2, A3, c3, eA, y0, y1, y2, y3, y4, m1, g1, m2, g2, m3, g3⟩ := at_T38 aV.out i d2 d1
    subst eA
    have u0 := qCM HK.out.nv.B y0
    have u1 := qCM HK.out.nv.B y1
    have u2 := qCM HK.out.nv.B y2
    have u3 := qCM HK.out.nv.B y3
    have u4 := qCM HK.out.nv.B y4
    clear y0 y1 y2 y3 y4
    have M1 := Aside0.mk m1
    have M2 := Aside0.mk m2
    have M3 := Aside0.mk m3
    have G1 := Aside0.mk g1
    have G2 := Aside0.mk g2
    have G3 := Aside0.mk g3
    clear m1 m2 m3 g1 g2 g3
    have q1 : (0 ≤ i) = True := eq_true d2
    have q2 : (i < (ab.length : Int)) = True := eq_true d1
    have ar := Aside0.mk (HK.out.below (qCA (Below.refl _ _) (.cells #[.string (rd_T38 ab i).f0, .slice A1 (rd_T38 ab i).f1.length c1, .slice A2 (rd_T38 ab i).f2.length c2, .slice A3 (rd_T38 ab i).f3.length c3, .int .i64 (rd_T38 ab i).f4] 38)))
    have HPl := Aside0.mk (alloc_new wr (.cells #[.string (rd_T38 ab i).f0, .slice A1 (rd_T38 ab i).f1.length c1, .slice A2 (rd_T38 ab i).f2.length c2, .slice A3 (rd_T38 ab i).f3.length c3, .int .i64 (rd_T38 ab i).f4] 38))
    obtain ⟨v0, v1, v2, v3, v4⟩ := trans_facts HPl.out
    by_cases d3 : p1 = 0
    case neg =>
     have d3b : (p1 == 0) = false := beq_eq_false_iff_ne.mpr d3
     have d3c : (p1 != 0) = true := bne_iff_ne.mpr d3
     rw [if_neg d3] at H
     simp only [Option.some.injEq, Prod.mk.injEq] at H
     obtain ⟨rfl, rfl⟩ := H
     clear d3
     go_wp2_with (first | (go_at_call 93; refine (add_calls w _ Bn ns _ _ ar.out.nv HP.out).mono ?_; rintro e w4 ⟨rfl, hn, ho⟩; have ae := Aside0.mk (ar.out.move hn ho); have HPm := Aside0.mk (ho.2 _ _ _ HPl.out (by decide) (by decide)); obtain ⟨t0, t1, t2, t3, t4⟩ := trans_facts HPm.out; obtain ⟨aj, ak, al, ao⟩ := res_facts ae.out.br; obtain ⟨av, aw, ax⟩ := net_facts ae.out.bx; clear hn ho))
     refine bodyPost_ret (results_cell_row rfl _ _ (w.heap.size + 1) 48 #[.int .i64 p1, .int .i64 (wrap64 ((aa.length : Int) + i))] (0, 0) _ rfl (res_put ae.out.br) Try.underlying48 rfl (by kernel_rfl)) rfl ?_
     exact ⟨rfl, qCN (qCN ae.out.nv.B (Nat.le_succ _)) (Nat.le_succ _)⟩
    have d3b : (p1 == 0) = true := beq_iff_eq.mpr d3
    rw [if_pos d3] at H
    obtain ⟨e1, he, H⟩ := Option.bind_eq_some_iff.mp H
    have HE := Aside0.mk he
    clear he
    by_cases d4 : e1 = 0
    case neg =>
     have d4b : (e1 == 0) = false := beq_eq_false_iff_ne.mpr d4
     have d4c : (e1 != 0) = true := bne_iff_ne.mpr d4
     rw [if_neg d4] at H
     simp only [Option.some.injEq, Prod.mk.injEq] at H
     obtain ⟨rfl, rfl⟩ := H
     clear d4 d3
     go_wp2_with (first | (go_at_call 93; refine (add_calls w _ Bn ns _ _ ar.out.nv HP.out).mono ?_; rintro e w4 ⟨rfl, hn, ho⟩; have ae := Aside0.mk (ar.out.move hn ho); have HPm := Aside0.mk (ho.2 _ _ _ HPl.out (by decide) (by decide)); obtain ⟨t0, t1, t2, t3, t4⟩ := trans_facts HPm.out; obtain ⟨aj, ak, al, ao⟩ := res_facts ae.out.br; obtain ⟨av, aw, ax⟩ := net_facts ae.out.bx; clear hn ho) | (go_at_call 95; refine (qBC.calls k3 _ (fun k_ => k_ < w4.heap.size) A1 c1 _ (fun k_ => k_ < w4.heap.size) A2 c2 _ (fun k_ => k_ < w4.heap.size) A3 c3 _ _ _ _ _ (Kd.V_mk M1.out (Kd.C_F heapArc (Kd.qCG G1.out ae.out.nv.B))) (Kd.V_mk M2.out (Kd.C_F heapArc (Kd.qCG G2.out ae.out.nv.B))) (Kd.V_mk M3.out (Kd.C_F heapArc (Kd.qCG G3.out ae.out.nv.B))) HE.out).mono ?_; rintro e w5 ⟨rfl, hb⟩; have aq := Aside0.mk (ae.out.below hb); obtain ⟨aj, ak, al, ao⟩ := res_facts aq.out.br; obtain ⟨av, aw, ax⟩ := net_facts aq.out.bx; clear hb))
     refine bodyPost_ret (results_cell_row rfl _ _ (w.heap.size + 1) 48 #[.int .i64 e1, .int .i64 (wrap64 ((aa.length : Int) + i))] (0, 0) _ rfl (res_put aq.out.br) Try.underlying48 rfl (by kernel_rfl)) rfl ?_
     exact ⟨rfl, qCN (qCN aq.out.nv.B (Nat.le_succ _)) (Nat.le_succ _)⟩
    have d4b : (e1 == 0) = true := beq_iff_eq.mpr d4
    have d4c : (e1 != 0) = false := by rw [bne, d4b]; rfl
    rw [if_pos d4] at H
    have HM := Aside0.mk (show (ab.length : Int) ≤ 9223372036854775807 by have := aV.out.2.1; omega)
    rw [show wrap64 (i + 1) = i + 1 by have := HM.out; unfold wrap64; omega] at H
    have H' := Aside0.mk H
    clear H d4 d3
    go_wp2_with (first | (go_at_call 93; refine (add_calls w _ Bn ns _ _ ar.out.nv HP.out).mono ?_; rintro e w4 ⟨rfl, hn, ho⟩; have ae := Aside0.mk (ar.out.move hn ho); have HPm := Aside0.mk (ho.2 _ _ _ HPl.out (by decide) (by decide)); obtain ⟨t0, t1, t2, t3, t4⟩ := trans_facts HPm.out; obtain ⟨aj, ak, al, ao⟩ := res_facts ae.out.br; obtain ⟨av, aw, ax⟩ := net_facts ae.out.bx; clear hn ho) | (go_at_call 95; refine (qBC.calls k3 _ (fun k_ => k_ < w4.heap.size) A1 c1 _ (fun k_ => k_ < w4.heap.size) A2 c2 _ (fun k_ => k_ < w4.heap.size) A3 c3 _ _ _ _ _ (Kd.V_mk M1.out (Kd.C_F heapArc (Kd.qCG G1.out ae.out.nv.B))) (Kd.V_mk M2.out (Kd.C_F heapArc (Kd.qCG G2.out ae.out.nv.B))) (Kd.V_mk M3.out (Kd.C_F heapArc (Kd.qCG G3.out ae.out.nv.B))) HE.out).mono ?_; rintro e w5 ⟨rfl, hb⟩; have aq := Aside0.mk (ae.out.below hb); obtain ⟨aj, ak, al, ao⟩ := res_facts aq.out.br; obtain ⟨av, aw, ax⟩ := net_facts aq.out.bx; clear hb))
    go_roundg k3
    case measure => have := aT.out; omega
    case rel => exact ⟨_, _, (by congr 1; have := HM.out; (first | omega | (unfold wrap64; omega) | (show wrap64 _ = _; unfold wrap64; omega))), H', ⟨by have := aT.out; omega⟩, aq⟩
  rw [if_pos d1] at H
  have d1b : decide (i < (aa.length : Int)) = true := decide_eq_true d1
  by_cases d2 : 0 ≤ i
  case neg => rw [if_neg d2] at H; cases H
  rw [if_pos d2] at H
  obtain ⟨⟨p1, bd⟩, hp, H⟩ := Option.bind_eq_some_iff.mp H
  have HP := Aside0.mk hp
  clear hp
  obtain ⟨ad, eA, y0, y1, y2⟩ := at_T64 aU.out i d2 d1
  subst eA
  have u0 := qCM HK.out.nv.B y0
  have u1 := qCM HK.out.nv.B y1
  have u2 := qCM HK.out.nv.B y2
  clear y0 y1 y2
  have q1 : (0 ≤ i) = True := eq_true d2
  have q2 : (i < (aa.length : Int)) = True := eq_true d1
  have ar := Aside0.mk (HK.out.below (qCA (Below.refl _ _) (.cells #[.string (rd_T64 aa i).f0, .int .i64 (rd_T64 aa i).f1, .int .i64 (rd_T64 aa i).f2] 64)))
  have HPl := Aside0.mk (alloc_new wr (.cells #[.string (rd_T64 aa i).f0, .int .i64 (rd_T64 aa i).f1, .int .i64 (rd_T64 aa i).f2] 64))
  obtain ⟨v0, v1, v2⟩ := place_facts HPl.out
  by_cases d3 : p1 = 0
  case neg =>
   have d3b : (p1 == 0) = false := beq_eq_false_iff_ne.mpr d3
   have d3c : (p1 != 0) = true := bne_iff_ne.mpr d3
   rw [if_neg d3] at H
   simp only [Option.some.injEq, Prod.mk.injEq] at H
   obtain ⟨rfl, rfl⟩ := H
   clear d3
   go_wp2_with (first | (go_at_call 93; refine (add_calls w _ Bn ns _ _ ar.out.nv HP.out).mono ?_; rintro e w4 ⟨rfl, hn, ho⟩; have ae := Aside0.mk (ar.out.move hn ho); have HPm := Aside0.mk (ho.2 _ _ _ HPl.out (by decide) (by decide)); obtain ⟨t0, t1, t2⟩ := place_facts HPm.out; obtain ⟨aj, ak, al, ao⟩ := res_facts ae.out.br; clear hn ho))
   refine bodyPost_ret (results_cell_row rfl _ _ (w.heap.size + 1) 48 #[.int .i64 p1, .int .i64 i] (0, 0) _ rfl (res_put ae.out.br) Try.underlying48 rfl (by kernel_rfl)) rfl ?_
   exact ⟨rfl, qCN (qCN ae.out.nv.B (Nat.le_succ _)) (Nat.le_succ _)⟩
  have d3b : (p1 == 0) = true := beq_iff_eq.mpr d3
  rw [if_pos d3] at H
  obtain ⟨e1, he, H⟩ := Option.bind_eq_some_iff.mp H
  have HE := Aside0.mk he
  clear he
  by_cases d4 : e1 = 0
  case neg =>
   have d4b : (e1 == 0) = false := beq_eq_false_iff_ne.mpr d4
   have d4c : (e1 != 0) = true := bne_iff_ne.mpr d4
   rw [if_neg d4] at H
   simp only [Option.some.injEq, Prod.mk.injEq] at H
   obtain ⟨rfl, rfl⟩ := H
   clear d4 d3
   go_wp2_with (first | (go_at_call 93; refine (add_calls w _ Bn ns _ _ ar.out.nv HP.out).mono ?_; rintro e w4 ⟨rfl, hn, ho⟩; have ae := Aside0.mk (ar.out.move hn ho); have HPm := Aside0.mk (ho.2 _ _ _ HPl.out (by decide) (by decide)); obtain ⟨t0, t1, t2⟩ := place_facts HPm.out; obtain ⟨aj, ak, al, ao⟩ := res_facts ae.out.br; clear hn ho) | (go_at_call 94; refine (net_checkPlace.calls _ _ _ _ _ HE.out).mono ?_; rintro e w5 ⟨rfl, hb⟩; have aq := Aside0.mk (ae.out.below hb); obtain ⟨aj, ak, al, ao⟩ := res_facts aq.out.br; clear hb))
   refine bodyPost_ret (results_cell_row rfl _ _ (w.heap.size + 1) 48 #[.int .i64 e1, .int .i64 i] (0, 0) _ rfl (res_put aq.out.br) Try.underlying48 rfl (by kernel_rfl)) rfl ?_
   exact ⟨rfl, qCN (qCN aq.out.nv.B (Nat.le_succ _)) (Nat.le_succ _)⟩
  have d4b : (e1 == 0) = true := beq_iff_eq.mpr d4
  have d4c : (e1 != 0) = false := by rw [bne, d4b]; rfl
  rw [if_pos d4] at H
  have HM := Aside0.mk (show (aa.length : Int) ≤ 9223372036854775807 by have := aU.out.2.1; omega)
  rw [show wrap64 (i + 1) = i + 1 by have := HM.out; unfold wrap64; omega] at H
  have H' := Aside0.mk H
  clear H d4 d3
  go_wp2_with (first | (go_at_call 93; refine (add_calls w _ Bn ns _ _ ar.out.nv HP.out).mono ?_; rintro e w4 ⟨rfl, hn, ho⟩; have ae := Aside0.mk (ar.out.move hn ho); have HPm := Aside0.mk (ho.2 _ _ _ HPl.out (by decide) (by decide)); obtain ⟨t0, t1, t2⟩ := place_facts HPm.out; obtain ⟨aj, ak, al, ao⟩ := res_facts ae.out.br; clear hn ho) | (go_at_call 94; refine (net_checkPlace.calls _ _ _ _ _ HE.out).mono ?_; rintro e w5 ⟨rfl, hb⟩; have aq := Aside0.mk (ae.out.below hb); obtain ⟨aj, ak, al, ao⟩ := res_facts aq.out.br; clear hb))
  go_roundg k1
  case measure => have := HJ.out; omega
  case rel => exact ⟨_, _, (by congr 1; have := HM.out; (first | omega | (unfold wrap64; omega) | (show wrap64 _ = _; unfold wrap64; omega))), H', ⟨by have := HJ.out; omega⟩, aq⟩

/-! ### net_valid: function 96 -/
def net_valid.f (k : Nat) (ae : ByteArray) (aa : List (S64)) (ab : List (S38)) : Option (Bool) := (qBD.f k ae aa ab).bind fun au => (some (au.1 == 0))
theorem net_valid.mono : ∀ a0 a1 a2 k, LeO (net_valid.f k a0 a1 a2) (net_valid.f (k + 1) a0 a1 a2) := by
 intro a0 a1 a2 k
 unfold net_valid.f
 repeat' first | (with_reducible first | apply qBD.mono | apply lr | apply ln | apply li | refine lb ?_ fun _ => ?_)
theorem net_valid.calls (k : Nat) (ae : ByteArray) (aj : Option Addr) (av : Nat) (aa : List (S64)) (ak : Option Addr) (aw : Nat) (ab : List (S38)) (r : Bool) (w : World) (ah : Kd.C k64 w aj aa.length aa) (af : aa.length ≤ av) (ai : Kd.C k38 w ak ab.length ab) (ag : ab.length ≤ aw) (h : net_valid.f k ae aa ab = some r) :
  Calls Try.prog 96 #[.agg #[.string ae, .slice aj aa.length av, .slice ak ab.length aw]] w fun e w' => e = .returned (.bool r) ∧ Below w.heap.size w w' := by
 have ax : ∀ (x0 x1 : Value) (W : World), (Instr.field 48 (.agg #[x0, x1]) 0).run Try.prog W = .ok x0 W := fun x0 x1 W => by kernel_rfl
 have aC := Try.underlying25
 have aq := am ah
 have ao := am af
 clear ah af
 have ar := am ai
 have ap := am ag
 clear ai ag
 have HB := am (Below.refl w.heap.size w)
 have H := h
 unfold net_valid.f at H
 clear h
 replace H := bnd H
 obtain ⟨⟨ay, az⟩, A2, H⟩ := H
 (try dsimp only at H)
 obtain rfl := Option.some.inj H
 go_enter Try.func96, Try.ntmps96
 go_wp2_with (first | ((with_reducible refine qBN (N := 1) rfl ?_); refine box_ev ?_; intro aB hg w3 hbox hb; have ac := am hbox; have al := gwl hg; have aA := al; replace HB := bsl hb; clear hb hbox hg; have aD := cf3 ac.1) | ((with_reducible refine qBO (f := 62) rfl ?_); refine gC 4 Try.func62 _ (qBD.calls k ae _ _ aa _ _ ab ay az _ (csb aq HB) ao.1 (csb ar HB) ap.1 A2.1) ?_; rintro e w5 ⟨rfl, hb⟩; refine ⟨_, rfl, ?_⟩; replace ac := bbh ac hb; replace HB := bst hb; (try clear hb)))
 go_ret
 exact ⟨per, pbg⟩

/-! ### qBE: function 63 -/
mutual
def qBE.l0 : Nat → List (S38) → Int → Int → ByteArray → List (S64) → List (S38) → Option (Bool)
 | 0, _, _, _, _, _, _ => none
 | k + 1, x8, x9, x10, aj, af, ak => if x10 < x9 then (if 0 ≤ x10 then (if x10 < (x8.length : Int) then (if (((rd_T38 x8 x10).f3).length : Int) > 0 then (some false) else (if ((rd_T38 x8 x10).f4) = 0 then (qBE.l0 k x8 x9 (wrap64 (x10 + 1)) aj af ak) else (some false))) else (none)) else (none)) else (qBE.l1 k af (af.length : Int) 0 aj af ak)
def qBE.l1 : Nat → List (S64) → Int → Int → ByteArray → List (S64) → List (S38) → Option (Bool)
 | 0, _, _, _, _, _, _ => none
 | k + 1, bB, bU, br, aj, af, ak => if br < bU then (if 0 ≤ br then (if br < (bB.length : Int) then (if ((rd_T64 bB br).f2) = 0 then (qBE.l1 k bB bU (wrap64 (br + 1)) aj af ak) else (some false)) else (none)) else (none)) else ((net_valid.f k aj af ak).bind fun bd => (some bd))
end
def qBE.f (k : Nat) (ap : ByteArray) (ai : List (S64)) (ac : List (S38)) : Option (Bool) := qBE.l0 k ac (ac.length : Int) 0 ap ai ac
theorem qBE.mono_l : ∀ k, M6 qBE.l0 k ∧ M6 qBE.l1 k
 | 0 => ⟨fun _ _ _ _ _ _ r h => by simp [qBE.l0] at h, fun _ _ _ _ _ _ r h => by simp [qBE.l1] at h⟩
 | k + 1 => by
  obtain ⟨bw, bx⟩ := qBE.mono_l k
  refine ⟨?_, ?_⟩ <;> dsimp only [M6] <;> intros <;> (first | unfold qBE.l0 | unfold qBE.l1) <;> repeat' first | (with_reducible first | apply bw | apply bx | apply net_valid.mono | apply lr | apply ln | apply li | refine lb ?_ fun _ => ?_)
theorem qBE.mono : ∀ a0 a1 a2 k, LeO (qBE.f k a0 a1 a2) (qBE.f (k + 1) a0 a1 a2) := by
 intro a0 a1 a2 k
 obtain ⟨bw, bx⟩ := qBE.mono_l k
 unfold qBE.f
 repeat' first | (with_reducible first | apply bw | apply bx | apply net_valid.mono | apply lr | apply ln | apply li | refine lb ?_ fun _ => ?_)
theorem qBE.calls (k : Nat) (ap : ByteArray) (aQ : Option Addr) (aS : Nat) (ai : List (S64)) (aR : Option Addr) (aT : Nat) (ac : List (S38)) (r : Bool) (w : World) (a8 : Kd.C k64 w aQ ai.length ai) (a6 : ai.length ≤ aS) (a9 : Kd.C k38 w aR ac.length ac) (a7 : ac.length ≤ aT) (h : qBE.f k ap ai ac = some r) :
  Calls Try.prog 63 #[.agg #[.string ap, .slice aQ ai.length aS, .slice aR ac.length aT]] w fun e w' => e = .returned (.bool r) ∧ Below w.heap.size w w' := by
 have bZ := Try.underlying25
 have b0 := Try.underlying38
 have b1 := Try.underlying64
 have aL := am a8
 have bh := am a6
 clear a8 a6
 have aC := am a9
 have bi := am a7
 clear a9 a7
 have HB := am (Below.refl w.heap.size w)
 have H := h
 unfold qBE.f at H
 clear h
 have H' := am H
 clear H
 go_enter Try.func63, Try.ntmps63
 go_wp2_with (first | ((with_reducible refine qBN (N := 1) rfl ?_); refine box_ev ?_; intro a4 hg w2 hbox hb; have aa := am hbox; have bg := gwl hg; have bG := bg; replace HB := bsl hb; clear hb hbox hg; have bV := cf3 aa.1))
 go_loopg [10] k (fun kq b2 w' => ∃ (ag : Int), b2 = .int .i64 ag ∧ Aside0 (qBE.l0 kq ac (ac.length : Int) ag ap ai ac = some r) ∧ Aside0 (kq ≤ k) ∧ Aside0 (w'.heap[a4]? = some (.cells #[.string ap, (.slice aQ ai.length aS), (.slice aR ac.length aT)] 25 (0, 0))) ∧ Aside0 (Below w.heap.size w w'))
 case atStart => exact ⟨(0), prs, H', ⟨Nat.le_refl _⟩, ⟨pbk aa.1⟩, ⟨pbg⟩⟩
 clear H'
 try clear bV
 obtain ⟨ag, rfl, HA, bs, aa, HB⟩ := hrel
 obtain _ | k1 := gk
 ·exact absurd HA.1 (by simp [qBE.l0])
 have H := HA.1
 clear HA
 simp only [qBE.l0] at H
 replace H := ifl H
 rcases H with ⟨bn, H⟩ | ⟨bn, H⟩
 rotate_left
 ·have H' := am H
  clear H
  have bF := cf3 aa.1
  go_wp2
  go_loopg [27] k1 (fun kq b3 w' => ∃ (ao : Int), b3 = .int .i64 ao ∧ Aside0 (qBE.l1 kq ai (ai.length : Int) ao ap ai ac = some r) ∧ Aside0 (kq ≤ k1) ∧ Aside0 (w'.heap[a4]? = some (.cells #[.string ap, (.slice aQ ai.length aS), (.slice aR ac.length aT)] 25 (0, 0))) ∧ Aside0 (Below w.heap.size w w'))
  case atStart => exact ⟨(0), prs, H', ⟨Nat.le_refl _⟩, ⟨pbk aa.1⟩, ⟨pbg⟩⟩
  clear H'
  try clear bn c5 bu c6 bv c7 bo bp b7 aZ a3 bC bD bE bF bV aq ar au av aw bb bc
  obtain ⟨ao, rfl, HA, bH, aa, HB⟩ := hrel
  obtain _ | k2 := gk
  ·exact absurd HA.1 (by simp [qBE.l1])
  have H := HA.1
  clear HA
  simp only [qBE.l1] at H
  replace H := ifl H
  rcases H with ⟨bk, H⟩ | ⟨bk, H⟩
  rotate_left
  ·replace H := bnd H
   obtain ⟨bd, bW, H⟩ := H
   (try dsimp only at H)
   obtain rfl := Option.some.inj H
   have b6 := cf3 aa.1
   go_wp2_with (first | ((with_reducible refine qBO (f := 96) rfl ?_); refine gC 36 Try.func96 _ (net_valid.calls k2 ap _ _ ai _ _ ac bd _ (csb aL HB) bh.1 (csb aC HB) bi.1 bW.1) ?_; rintro e cd ⟨rfl, hb⟩; refine ⟨_, rfl, ?_⟩; replace aa := bbh aa hb; replace HB := bst hb; (try clear hb)))
   go_ret
   exact ⟨per, pbg⟩
  replace H := ifd H
  obtain ⟨bJ, H⟩ := H
  replace H := ifd H
  obtain ⟨bL, H⟩ := H
  replace H := ife H
  rcases H with ⟨bl, bm, H⟩ | ⟨bl, bm, H⟩
  rotate_left
  ·obtain rfl := Option.some.inj H
   obtain ⟨bz, bA, bj, ba, aU, aV, aW⟩ := bT64 aL.1 HB.1 ao
   cases ba
   go_wp2_with (first | ((with_reducible refine qBN (N := 6) rfl ?_); refine box_ev (N := 6) (cs := #[.string (⟨#[]⟩ : ByteArray), .int .i64 0, .int .i64 0]) (t := 64) ?_; intro bq hg cb hbox hb; have aJ := am hbox; have aK := gwb hg; have bf := aK; have ah := nlt hg aa; have al := ngt hg aa; replace aa := bbh aa hb; replace HB := bst hb; clear hb hbox hg; have bP := al.1; have bT := ah.1; have b5 := cf3 aJ.1))
   go_ret
   exact ⟨per, pbg⟩
  have H' := am H
  clear H
  obtain ⟨bz, bA, bj, ba, aU, aV, aW⟩ := bT64 aL.1 HB.1 ao
  cases ba
  go_wp2_with (first | ((with_reducible refine qBN (N := 6) rfl ?_); refine box_ev (N := 6) (cs := #[.string (⟨#[]⟩ : ByteArray), .int .i64 0, .int .i64 0]) (t := 64) ?_; intro bq hg ca hbox hb; have aJ := am hbox; have aK := gwb hg; have bf := aK; have ah := nlt hg aa; have al := ngt hg aa; replace aa := bbh aa hb; replace HB := bst hb; clear hb hbox hg; have bO := al.1; have bS := ah.1; have b4 := cf3 aJ.1))
  go_roundg k2
  case measure => have := bs.1; have := bH.1; omega
  case rel => exact ⟨(wrap64 (ao + 1)), prs, H', ⟨by have := bs.1; have := bH.1; omega⟩, ⟨by (with_reducible repeat (first | refine qBK ?_ _ | refine qBM ?_ | refine qBL ?_ _)); refine bf3 ?_ ah.1; exact pbk aa.1⟩, ⟨pbg⟩⟩
 replace H := ifd H
 obtain ⟨bu, H⟩ := H
 replace H := ifd H
 obtain ⟨bv, H⟩ := H
 by_cases c7 : (((rd_T38 ac ag).f3).length : Int) > 0
 ·rw [if_pos c7] at H
  have bo : decide (0 < (((rd_T38 ac ag).f3).length : Int)) = true := decide_eq_true c7
  have bp : decide (0 < ((rd_T38 ac ag).f3).length) = true := decide_eq_true (by omega)
  clear c7
  obtain rfl := Option.some.inj H
  obtain ⟨bb, bc, aY, aG, aM, aH, aN, aI, aO, aP, aq, ar, au, av, aw, az, aD, aA, aE, aB, aF⟩ := bT38 aC.1 HB.1 ag
  cases aP
  go_wp2_with (first | ((with_reducible refine qBN (N := 4) rfl ?_); refine box_ev (N := 4) (cs := #[.string (⟨#[]⟩ : ByteArray), .slice none 0 0, .slice none 0 0, .slice none 0 0, .int .i64 0]) (t := 38) ?_; intro a5 hg w8 hbox hb; have ax := am hbox; have ay := gwb hg; have aX := ay; have ab := nlt hg aa; have ae := ngt hg aa; replace aa := bbh aa hb; replace HB := bst hb; clear hb hbox hg; have bX := ae.1; have bY := ab.1; have bC := cf5 ax.1))
  go_ret
  exact ⟨per, pbg⟩
 rw [if_neg c7] at H
 have bo : decide (0 < (((rd_T38 ac ag).f3).length : Int)) = false := decide_eq_false c7
 have bp : decide (0 < ((rd_T38 ac ag).f3).length) = false := decide_eq_false (by omega)
 clear c7
 replace H := ife H
 rcases H with ⟨aZ, a3, H⟩ | ⟨aZ, a3, H⟩
 rotate_left
 ·obtain rfl := Option.some.inj H
  obtain ⟨bb, bc, aY, aG, aM, aH, aN, aI, aO, aP, aq, ar, au, av, aw, az, aD, aA, aE, aB, aF⟩ := bT38 aC.1 HB.1 ag
  cases aP
  go_wp2_with (first | ((with_reducible refine qBN (N := 4) rfl ?_); refine box_ev (N := 4) (cs := #[.string (⟨#[]⟩ : ByteArray), .slice none 0 0, .slice none 0 0, .slice none 0 0, .int .i64 0]) (t := 38) ?_; intro a5 hg b9 hbox hb; have ax := am hbox; have ay := gwb hg; have aX := ay; have ab := nlt hg aa; have ae := ngt hg aa; replace aa := bbh aa hb; replace HB := bst hb; clear hb hbox hg; have bN := ae.1; have bR := ab.1; have bE := cf5 ax.1))
  go_ret
  exact ⟨per, pbg⟩
 have H' := am H
 clear H
 obtain ⟨bb, bc, aY, aG, aM, aH, aN, aI, aO, aP, aq, ar, au, av, aw, az, aD, aA, aE, aB, aF⟩ := bT38 aC.1 HB.1 ag
 cases aP
 go_wp2_with (first | ((with_reducible refine qBN (N := 4) rfl ?_); refine box_ev (N := 4) (cs := #[.string (⟨#[]⟩ : ByteArray), .slice none 0 0, .slice none 0 0, .slice none 0 0, .int .i64 0]) (t := 38) ?_; intro a5 hg b8 hbox hb; have ax := am hbox; have ay := gwb hg; have aX := ay; have ab := nlt hg aa; have ae := ngt hg aa; replace aa := bbh aa hb; replace HB := bst hb; clear hb hbox hg; have bM := ae.1; have bQ := ab.1; have bD := cf5 ax.1))
 go_roundg k1
 case measure => have := bs.1; omega
 case rel => exact ⟨(wrap64 (ag + 1)), prs, H', ⟨by have := bs.1; omega⟩, ⟨by (with_reducible repeat (first | refine qBK ?_ _ | refine qBM ?_ | refine qBL ?_ _)); refine bf5 ?_ ab.1; exact pbk aa.1⟩, ⟨pbg⟩⟩

end Go.Proofs.Ytaoogghpadifiaa.P
