-- LAID BY OUR PROGRAM OVER THE PRINT (xprint.py, part.py): Lean checks it.
import Derived.Test.YtplljicodflagaaPx0
import Derived.Test.YtplljicodflagaaPx1
import Derived.Laws.RangeString
import Derived.BigRegion
import Derived.Laws.EntriesVeiled
import Derived.RegionTactic
namespace Go.Proofs.Ytplljicodflagaa.P
open Go.RowKit Go.Proofs.YtplljicodflagaaW.PrintWords Go.Proofs.YtplljicodflagaaW.PrintLast Go.Proofs.YtplljicodflagaaW.PrintMore
attribute [local go_sem] max2_int min2_int max_two min_two max_three min_three max_four min_four   -- for this text's walks alone
set_option linter.unusedVariables false
set_option linter.unusedSimpArgs false

/-! ### net_Name: function 88 -/
-- IMPORTS Derived.Laws.RangeString
/-- A byte of a name, at its place. -/
def nameC (i c : Int) : Bool := (decide (97 ≤ c) && decide (c ≤ 122)) || c == 95 || (decide (0 < i) && ((decide (48 ≤ c) && decide (c ≤ 57)) || c == 46))
def nameB (s : ByteArray) : Bool := decide (1 ≤ s.size) && decide (s.size ≤ 16) && (List.range s.size).all fun i => nameC (i : Int) (bt s (i : Int))
def net_Name.f (a0 : ByteArray) : Option Bool := some (nameB a0)
/-- A sign that is no single byte is none of a name. -/
theorem decode_far (s : ByteArray) (pos : Nat) (h : pos < s.size) (ha : ¬ (s[pos]'h).toNat < 128) : ¬ (Utf8.decode s pos).1 < 128 := by
 have e : s.get! (pos + 0) = s[pos]'h := by
  show s.get! pos = _
  simp [ByteArray.get!, getElem!_pos, h]
  rfl
 unfold Utf8.decode
 simp only [e]
 rw [if_neg ha]
 repeat' first | split
 all_goals simp_all [Utf8.runeError]
 all_goals omega
theorem next_some {b pos : Nat} {s : ByteArray} {W : World} (P : Program) (ty : TypeId) (hb : W.heap[b]? = some (.stringIter s pos)) (h : pos < s.size) :
  (Instr.next (.pointer (some ⟨b, 0, none⟩)) true ty).run P W = .ok (.tuple #[.bool true, .int .i64 pos, .int .i32 (Utf8.decode s pos).1]) { W with heap := W.heap.setIfInBounds b (.stringIter s (pos + (Utf8.decode s pos).2)) } := by
 simp [Instr.next, getObj, setObj, Sem.run, hb, h, goInt]
theorem next_none {b pos : Nat} {s : ByteArray} {W : World} (P : Program) (ty : TypeId) (hb : W.heap[b]? = some (.stringIter s pos)) (h : ¬ pos < s.size) :
  (Instr.next (.pointer (some ⟨b, 0, none⟩)) true ty).run P W = .ok (.tuple #[.bool false]) W := by
 simp [Instr.next, getObj, Sem.run, hb, h]
theorem iter_step {w wr w2 : World} {b pos pos' : Nat} {s : ByteArray} (hb : wr.heap[b]? = some (.stringIter s pos)) (hB : Below w.heap.size w wr) (hn : w.heap.size ≤ b) (h : w2 = { wr with heap := wr.heap.setIfInBounds b (.stringIter s pos') }) :
  w2.heap[b]? = some (.stringIter s pos') ∧ Below w.heap.size w w2 := by
 subst h
 refine ⟨?_, hB.os, hB.tape, hB.output, by simpa using hB.size, fun k hk => ?_⟩
 ·obtain ⟨h1, h2⟩ := Array.getElem?_eq_some_iff.mp hb
  simp [Array.getElem?_setIfInBounds, h1]
 ·rw [← hB.block k hk]
  show (wr.heap.setIfInBounds b _)[k]? = _
  rw [Array.getElem?_setIfInBounds, if_neg (by omega)]
theorem nameB_no {s : ByteArray} {i : Nat} (hi : i < s.size) (h : nameC (i : Int) (bt s (i : Int)) = false) : nameB s = false := by
 unfold nameB
 rw [Bool.and_eq_false_iff]
 refine .inr (Bool.eq_false_iff.2 fun e => ?_)
 have := List.all_eq_true.1 e i (List.mem_range.2 hi)
 rw [h] at this
 cases this
theorem nameB_yes {s : ByteArray} (h1 : 1 ≤ s.size) (h2 : s.size ≤ 16) (h : ∀ i, i < s.size → nameC (i : Int) (bt s (i : Int)) = true) : nameB s = true := by
 unfold nameB
 rw [decide_eq_true h1, decide_eq_true h2, Bool.true_and, Bool.true_and]
 exact List.all_eq_true.2 fun i hi => h i (List.mem_range.1 hi)
/-- The sign at a place: its first byte if that is a sign, and none of a name otherwise. -/
theorem sign_at (s : ByteArray) (pos : Nat) (h : pos < s.size) (i : Int) : nameC i ((Utf8.decode s pos).1 : Int) = nameC i (bt s (pos : Int)) ∧ (nameC i ((Utf8.decode s pos).1 : Int) = true → (Utf8.decode s pos).2 = 1) := by
 have hb : bt s (pos : Int) = ((s[pos]'h).toNat : Int) := by unfold bt; rw [dif_pos (by simpa using h)]; simp
 by_cases ha : (s[pos]'h).toNat < 128
 ·rw [decode_ascii s pos h ha]
  exact ⟨by rw [hb], fun _ => rfl⟩
 ·have hf := decode_far s pos h ha
  have no : ∀ c : Int, ¬ c < 128 → nameC i c = false := fun c hc => by
   unfold nameC
   rw [decide_eq_false (show ¬ c ≤ 122 by omega), decide_eq_false (show ¬ c ≤ 57 by omega), beq_eq_false_iff_ne.2 (show c ≠ 95 by omega), beq_eq_false_iff_ne.2 (show c ≠ 46 by omega)]
   simp
  rw [no _ (by omega), no (bt s (pos : Int)) (by rw [hb]; omega)]
  exact ⟨rfl, fun h => by cases h⟩

set_option maxHeartbeats 4000000 in
set_option maxRecDepth 100000 in
theorem net_Name.calls (a0 : ByteArray) (r : Bool) (w : World) (h : net_Name.f a0 = some r) :
  Calls Try.prog 88 #[.string a0] w fun e w' => e = .returned (.bool r) ∧ Below w.heap.size w w' := by
 have hr : nameB a0 = r := Option.some.inj h
 have HR := Aside0.mk hr
 clear h hr
 by_cases c1 : (a0.size : Int) < 1
 ·have hf : nameB a0 = false := by unfold nameB; rw [decide_eq_false (by omega)]; rfl
  have c1b : decide ((a0.size : Int) < 1) = true := decide_eq_true c1
  have c1c : decide (a0.size < 1) = true := decide_eq_true (by omega)
  have HR2 := Aside0.mk (HR.out.symm.trans hf)
  clear hf HR c1
  go_enter Try.func88, Try.ntmps88
  go_wp2
  go_ret
  have e_ := HR2.out
  subst e_
  exact ⟨rfl, Below.refl _ _⟩
 ·have c1b : decide ((a0.size : Int) < 1) = false := decide_eq_false c1
  have c1c : decide (a0.size < 1) = false := decide_eq_false (by omega)
  by_cases c2 : (16 : Int) < (a0.size : Int)
  ·have hf : nameB a0 = false := by unfold nameB; rw [decide_eq_false (show ¬ a0.size ≤ 16 by omega)]; simp
   have c2b : decide ((16 : Int) < (a0.size : Int)) = true := decide_eq_true c2
   have c2c : decide (16 < a0.size) = true := decide_eq_true (by omega)
   have HR2 := Aside0.mk (HR.out.symm.trans hf)
   clear hf HR c1 c2
   go_enter Try.func88, Try.ntmps88
   go_wp2
   go_ret
   have e_ := HR2.out
   subst e_
   exact ⟨rfl, Below.refl _ _⟩
  ·have c2b : decide ((16 : Int) < (a0.size : Int)) = false := decide_eq_false c2
   have c2c : decide (16 < a0.size) = false := decide_eq_false (by omega)
   have S1 := Aside0.mk (show 1 ≤ a0.size by omega)
   have S2 := Aside0.mk (show a0.size ≤ 16 by omega)
   clear c1 c2
   go_enter Try.func88, Try.ntmps88
   go_wp2
   have HI := Aside0.mk (show (w.iter a0 0).heap[w.heap.size]? = some (.stringIter a0 0) from World.iter_heap w a0 0)
   have HB := Aside0.mk (show Below w.heap.size w (w.iter a0 0) from below_alloc (Below.refl _ _) _)
   go_loopg [3] a0.size (fun kq v3 w' => ∃ pos : Nat, Aside0 (kq = a0.size - pos) ∧ Aside0 (w'.heap[w.heap.size]? = some (.stringIter a0 pos)) ∧ Aside0 (∀ i, i < pos → nameC (i : Int) (bt a0 (i : Int)) = true) ∧ Aside0 (Below w.heap.size w w'))
   case atStart => exact ⟨0, ⟨rfl⟩, HI, ⟨fun i hi => absurd hi (Nat.not_lt_zero _)⟩, HB⟩
   case round =>
    clear HI HB
    obtain ⟨pos, HK, HI, HO, HB⟩ := hrel
    by_cases d1 : pos < a0.size
    case neg =>
     have hnx := fun ty => next_none Try.prog ty HI.out d1
     have HR2 := Aside0.mk (HR.out.symm.trans (nameB_yes S1.out S2.out (fun i hi => HO.out i (by omega))))
     clear d1
     go_wp2
     go_ret
     have e_ := HR2.out
     subst e_
     exact ⟨rfl, HB.out⟩
    have hnx0 := fun ty => next_some Try.prog ty HI.out d1
    obtain ⟨sg1, sg2⟩ := sign_at a0 pos d1 (pos : Int)
    obtain ⟨w2, hw2⟩ : ∃ w2 : World, w2 = { wr with heap := wr.heap.setIfInBounds w.heap.size (.stringIter a0 (pos + (Utf8.decode a0 pos).2)) } := ⟨_, rfl⟩
    have hit := iter_step HI.out HB.out (Nat.le_refl _) hw2
    obtain ⟨c, hc⟩ : ∃ c : Int, c = ((Utf8.decode a0 pos).1 : Int) := ⟨_, rfl⟩
    have hnx : ∀ ty, (Instr.next (.pointer (some ⟨w.heap.size, 0, none⟩)) true ty).run Try.prog wr = .ok (.tuple #[.bool true, .int .i64 pos, .int .i32 c]) w2 := fun ty => by rw [hw2, hc]; exact hnx0 ty
    rw [← hc] at sg1 sg2
    have SG1 := Aside0.mk sg1
    have SG2 := Aside0.mk sg2
    have HIT := Aside0.mk hit
    have D1 := Aside0.mk d1
    clear sg1 sg2 hit hnx0 hc hw2 d1
    cases e1 : decide (97 ≤ c) with
    | true =>
     cases e2 : decide (c ≤ 122) with
     | true =>
      have OK := Aside0.mk (show nameC (pos : Int) c = true by unfold nameC; rw [e1, e2]; rfl)
      go_wp2
      go_roundg (a0.size - (pos + 1))
      case measure => have := HK.out; have := D1.out; omega
      case rel =>
       have h1 := HIT.out.1
       rw [SG2.out OK.out] at h1
       refine ⟨pos + 1, ⟨rfl⟩, ⟨h1⟩, ⟨fun i hi => ?_⟩, ⟨HIT.out.2⟩⟩
       by_cases e : i = pos
       ·subst e; exact SG1.out.symm.trans OK.out
       ·exact HO.out i (by omega)
     | false =>
      cases e3 : (c == 95) with
      | true =>
       have OK := Aside0.mk (show nameC (pos : Int) c = true by unfold nameC; rw [e1, e2, e3]; rfl)
       go_wp2
       go_roundg (a0.size - (pos + 1))
       case measure => have := HK.out; have := D1.out; omega
       case rel =>
        have h1 := HIT.out.1
        rw [SG2.out OK.out] at h1
        refine ⟨pos + 1, ⟨rfl⟩, ⟨h1⟩, ⟨fun i hi => ?_⟩, ⟨HIT.out.2⟩⟩
        by_cases e : i = pos
        ·subst e; exact SG1.out.symm.trans OK.out
        ·exact HO.out i (by omega)
      | false =>
       cases e4 : decide (0 < (pos : Int)) with
       | true =>
        have e4n : decide (0 < pos) = true := (decide_eq_decide.2 (by omega)).trans e4
        cases e5 : decide (48 ≤ c) with
        | true =>
         cases e6 : decide (c ≤ 57) with
         | true =>
          have OK := Aside0.mk (show nameC (pos : Int) c = true by unfold nameC; rw [e1, e2, e3, e4, e5, e6]; rfl)
          go_wp2
          go_roundg (a0.size - (pos + 1))
          case measure => have := HK.out; have := D1.out; omega
          case rel =>
           have h1 := HIT.out.1
           rw [SG2.out OK.out] at h1
           refine ⟨pos + 1, ⟨rfl⟩, ⟨h1⟩, ⟨fun i hi => ?_⟩, ⟨HIT.out.2⟩⟩
           by_cases e : i = pos
           ·subst e; exact SG1.out.symm.trans OK.out
           ·exact HO.out i (by omega)
         | false =>
          cases e7 : (c == 46) with
          | true =>
           have OK := Aside0.mk (show nameC (pos : Int) c = true by unfold nameC; rw [e1, e2, e3, e4, e5, e6, e7]; rfl)
           go_wp2
           go_roundg (a0.size - (pos + 1))
           case measure => have := HK.out; have := D1.out; omega
           case rel =>
            have h1 := HIT.out.1
            rw [SG2.out OK.out] at h1
            refine ⟨pos + 1, ⟨rfl⟩, ⟨h1⟩, ⟨fun i hi => ?_⟩, ⟨HIT.out.2⟩⟩
            by_cases e : i = pos
            ·subst e; exact SG1.out.symm.trans OK.out
            ·exact HO.out i (by omega)
          | false =>
           have HR2 := Aside0.mk (HR.out.symm.trans (nameB_no D1.out (SG1.out.symm.trans (show nameC (pos : Int) c = false by unfold nameC; rw [e1, e2, e3, e4, e5, e6, e7]; rfl))))
           go_wp2
           go_ret
           have e_ := HR2.out
           subst e_
           exact ⟨rfl, HIT.out.2⟩
        | false =>
         cases e7 : (c == 46) with
         | true =>
          have OK := Aside0.mk (show nameC (pos : Int) c = true by unfold nameC; rw [e1, e2, e3, e4, e5, e7]; rfl)
          go_wp2
          go_roundg (a0.size - (pos + 1))
          case measure => have := HK.out; have := D1.out; omega
          case rel =>
           have h1 := HIT.out.1
           rw [SG2.out OK.out] at h1
           refine ⟨pos + 1, ⟨rfl⟩, ⟨h1⟩, ⟨fun i hi => ?_⟩, ⟨HIT.out.2⟩⟩
           by_cases e : i = pos
           ·subst e; exact SG1.out.symm.trans OK.out
           ·exact HO.out i (by omega)
         | false =>
          have HR2 := Aside0.mk (HR.out.symm.trans (nameB_no D1.out (SG1.out.symm.trans (show nameC (pos : Int) c = false by unfold nameC; rw [e1, e2, e3, e4, e5, e7]; rfl))))
          go_wp2
          go_ret
          have e_ := HR2.out
          subst e_
          exact ⟨rfl, HIT.out.2⟩
       | false =>
        have e4n : decide (0 < pos) = false := (decide_eq_decide.2 (by omega)).trans e4
        have HR2 := Aside0.mk (HR.out.symm.trans (nameB_no D1.out (SG1.out.symm.trans (show nameC (pos : Int) c = false by unfold nameC; rw [e1, e2, e3, e4]; rfl))))
        go_wp2
        go_ret
        have e_ := HR2.out
        subst e_
        exact ⟨rfl, HIT.out.2⟩
    | false =>
     cases e3 : (c == 95) with
     | true =>
      have OK := Aside0.mk (show nameC (pos : Int) c = true by unfold nameC; rw [e1, e3]; rfl)
      go_wp2
      go_roundg (a0.size - (pos + 1))
      case measure => have := HK.out; have := D1.out; omega
      case rel =>
       have h1 := HIT.out.1
       rw [SG2.out OK.out] at h1
       refine ⟨pos + 1, ⟨rfl⟩, ⟨h1⟩, ⟨fun i hi => ?_⟩, ⟨HIT.out.2⟩⟩
       by_cases e : i = pos
       ·subst e; exact SG1.out.symm.trans OK.out
       ·exact HO.out i (by omega)
     | false =>
      cases e4 : decide (0 < (pos : Int)) with
      | true =>
       have e4n : decide (0 < pos) = true := (decide_eq_decide.2 (by omega)).trans e4
       cases e5 : decide (48 ≤ c) with
       | true =>
        cases e6 : decide (c ≤ 57) with
        | true =>
         have OK := Aside0.mk (show nameC (pos : Int) c = true by unfold nameC; rw [e1, e3, e4, e5, e6]; rfl)
         go_wp2
         go_roundg (a0.size - (pos + 1))
         case measure => have := HK.out; have := D1.out; omega
         case rel =>
          have h1 := HIT.out.1
          rw [SG2.out OK.out] at h1
          refine ⟨pos + 1, ⟨rfl⟩, ⟨h1⟩, ⟨fun i hi => ?_⟩, ⟨HIT.out.2⟩⟩
          by_cases e : i = pos
          ·subst e; exact SG1.out.symm.trans OK.out
          ·exact HO.out i (by omega)
        | false =>
         cases e7 : (c == 46) with
         | true =>
          have OK := Aside0.mk (show nameC (pos : Int) c = true by unfold nameC; rw [e1, e3, e4, e5, e6, e7]; rfl)
          go_wp2
          go_roundg (a0.size - (pos + 1))
          case measure => have := HK.out; have := D1.out; omega
          case rel =>
           have h1 := HIT.out.1
           rw [SG2.out OK.out] at h1
           refine ⟨pos + 1, ⟨rfl⟩, ⟨h1⟩, ⟨fun i hi => ?_⟩, ⟨HIT.out.2⟩⟩
           by_cases e : i = pos
           ·subst e; exact SG1.out.symm.trans OK.out
           ·exact HO.out i (by omega)
         | false =>
          have HR2 := Aside0.mk (HR.out.symm.trans (nameB_no D1.out (SG1.out.symm.trans (show nameC (pos : Int) c = false by unfold nameC; rw [e1, e3, e4, e5, e6, e7]; rfl))))
          go_wp2
          go_ret
          have e_ := HR2.out
          subst e_
          exact ⟨rfl, HIT.out.2⟩
       | false =>
        cases e7 : (c == 46) with
        | true =>
         have OK := Aside0.mk (show nameC (pos : Int) c = true by unfold nameC; rw [e1, e3, e4, e5, e7]; rfl)
         go_wp2
         go_roundg (a0.size - (pos + 1))
         case measure => have := HK.out; have := D1.out; omega
         case rel =>
          have h1 := HIT.out.1
          rw [SG2.out OK.out] at h1
          refine ⟨pos + 1, ⟨rfl⟩, ⟨h1⟩, ⟨fun i hi => ?_⟩, ⟨HIT.out.2⟩⟩
          by_cases e : i = pos
          ·subst e; exact SG1.out.symm.trans OK.out
          ·exact HO.out i (by omega)
        | false =>
         have HR2 := Aside0.mk (HR.out.symm.trans (nameB_no D1.out (SG1.out.symm.trans (show nameC (pos : Int) c = false by unfold nameC; rw [e1, e3, e4, e5, e7]; rfl))))
         go_wp2
         go_ret
         have e_ := HR2.out
         subst e_
         exact ⟨rfl, HIT.out.2⟩
      | false =>
       have e4n : decide (0 < pos) = false := (decide_eq_decide.2 (by omega)).trans e4
       have HR2 := Aside0.mk (HR.out.symm.trans (nameB_no D1.out (SG1.out.symm.trans (show nameC (pos : Int) c = false by unfold nameC; rw [e1, e3, e4]; rfl))))
       go_wp2
       go_ret
       have e_ := HR2.out
       subst e_
       exact ⟨rfl, HIT.out.2⟩

/-! ### net_Check: function 68 -/
-- IMPORTS Derived.RegionTactic,Derived.BigRegion,Derived.Laws.EntriesVeiled
/-- The names so far, in a variable of the call's own; what else stood there stays. -/
structure NInv (w0 w : World) (Bn : Nat) (ns : List ByteArray) : Prop where
 t : ∃ v, w.heap[Bn]? = some (.cells #[v] 34 (0, 0)) ∧ Kd.R Kd.string 9 w w0.heap.size (fun _ => True) v ns
 B : Below w0.heap.size w0 w
 b : w0.heap.size ≤ Bn
def Others (w w1 : World) : Prop := w.heap.size ≤ w1.heap.size ∧ ∀ (a : Nat) (c : Array Value) (t : Nat), w.heap[a]? = some (.cells c t (0, 0)) → t ≠ 34 → t ≠ 9 → w1.heap[a]? = some (.cells c t (0, 0))
theorem Others.trans {a b c : World} (h : Others a b) (k : Others b c) : Others a c := ⟨Nat.le_trans h.1 k.1, fun x cs t h1 h2 h3 => k.2 x cs t (h.2 x cs t h1 h2 h3) h2 h3⟩
theorem Others.below {w w1 : World} (hb : Below w.heap.size w w1) : Others w w1 := ⟨hb.size, fun a c t h _ _ => blk_below h hb⟩
theorem NInv.below {w0 w w1 : World} {Bn : Nat} {ns : List ByteArray} (h : NInv w0 w Bn ns) (hb : Below w.heap.size w w1) : NInv w0 w1 Bn ns := by
 obtain ⟨⟨v, h1, h2⟩, B, b⟩ := h
 exact ⟨⟨v, blk_below h1 hb, Kd.R_below h2 hb⟩, B.trans (hb.mono B.size), b⟩
theorem NInv.push {w0 w w1 : World} {Bn : Nat} {ns ns' : List ByteArray} (h : NInv w0 w Bn ns) {v v1 : Value} (hT : Kd.R Kd.string 9 w w0.heap.size (fun _ => True) v ns)
  (h1 : Kd.R Kd.string 9 w1 w0.heap.size (fun _ => True) v1 ns') (hb : Below w0.heap.size w0 w1) (hg : w.grownBy w1 v.ownBlock) : NInv w0 (w1.setCell ⟨Bn, 0, none⟩ v1) Bn ns' ∧ Others w (w1.setCell ⟨Bn, 0, none⟩ v1) ∧ w1.cell? ⟨Bn, 0, none⟩ ≠ none ∧ w1.frozen? ⟨Bn, 0, none⟩ = false := by
 obtain ⟨⟨vt, h3, h4⟩, B, b⟩ := h
 have e3 := grown_blk h3 (Kd.R_typed hT) (by decide) hg
 refine ⟨⟨⟨v1, one_setCell e3, Kd.R_set h1 e3 (by decide) _ _⟩, below_set hb b, b⟩, ⟨by simpa using hg.size, fun a c t ha t1 t2 => ?_⟩, by rw [cell_of_one e3]; simp, free_of_one e3⟩
 have ea := grown_blk ha (Kd.R_typed hT) t2 hg
 exact blk_over ea (blk_apart ea e3 t1) _
/-- One more name: an error, or the names with it. -/
def addM (ns : List ByteArray) (s : ByteArray) : Option (Int × List ByteArray) :=
 if nameB s = true then (if (ns.any fun o => o.toList == s.toList) = true then some (6, ns) else (if ns.length < 1000000 then some (0, ns ++ [s]) else none)) else some (5, ns)
theorem any_step (ns : List ByteArray) (s : ByteArray) (i : Nat) (hi : i < ns.length) : ((ns.drop i).any fun o => o.toList == s.toList) = (((rdOf ByteArray.empty ns (i : Int)).toList == s.toList) || ((ns.drop (i + 1)).any fun o => o.toList == s.toList)) := by
 rw [List.drop_eq_getElem_cons hi, List.any_cons]
 unfold rdOf
 rw [Int.toNat_natCast, List.getD_eq_getElem?_getD, List.getElem?_eq_getElem hi]
 rfl

set_option maxHeartbeats 1000000 in
set_option maxRecDepth 100000 in
theorem add_calls (w0 w : World) (Bn : Nat) (ns : List ByteArray) (s : ByteArray) (p : Int × List ByteArray) (h : NInv w0 w Bn ns) (hp : addM ns s = some p) :
  Calls Try.prog 89 #[.string s, .pointer (some ⟨Bn, 0, none⟩)] w fun e w' => e = .returned (.int .i64 p.1) ∧ NInv w0 w' Bn p.2 ∧ Others w w' := by
 have HV := Aside0.mk h
 clear h
 unfold addM at hp
 by_cases c1 : nameB s = true
 case neg =>
  rw [if_neg c1] at hp
  cases hp
  have HN := Aside0.mk (show net_Name.f s = some false by unfold net_Name.f; rw [Bool.not_eq_true] at c1; rw [c1])
  clear c1
  go_enter Try.func89, Try.ntmps89
  go_wp2_with (first | (go_at_call 88; refine (net_Name.calls _ _ _ HN.out).mono ?_; rintro e w' ⟨rfl, hb⟩; have HB := Aside0.mk hb; clear hb))
  go_ret
  exact ⟨rfl, HV.out.below HB.out, Others.below HB.out⟩
 rw [if_pos c1] at hp
 have HN := Aside0.mk (show net_Name.f s = some true by unfold net_Name.f; rw [c1])
 have HP := Aside0.mk hp
 clear c1 hp
 go_enter Try.func89, Try.ntmps89
 go_wp2_with (first | (go_at_call 88; refine (net_Name.calls _ _ _ HN.out).mono ?_; rintro e w1 ⟨rfl, hb⟩; have HV1 := Aside0.mk (HV.out.below hb); have HO1 := Aside0.mk (Others.below hb); obtain ⟨vt, ht1, ht2⟩ := HV1.out.t; obtain ⟨At, ct, rfl⟩ := Kd.R_slice ht2; have ct1 := cell_of_one ht1; have HC := Aside0.mk ht1; have HT := Aside0.mk ht2; clear hb ht1 ht2))
 clear HV
 have HD := Aside0.mk (show (ns.any fun o => o.toList == s.toList) = ((ns.drop 0).any fun o => o.toList == s.toList) by rw [List.drop_zero])
 go_loopg [11] ns.length (fun kq v11 w' => ∃ i : Nat, v11 = .int .i64 i ∧ Aside0 (kq = ns.length - i) ∧ Aside0 (i ≤ ns.length) ∧ Aside0 ((ns.any fun o => o.toList == s.toList) = ((ns.drop i).any fun o => o.toList == s.toList)) ∧ Aside0 (w'.heap[Bn]? = some (.cells #[.slice At ns.length ct] 34 (0, 0))) ∧ Aside0 (Kd.R Kd.string 9 w' w0.heap.size (fun _ => True) (.slice At ns.length ct) ns) ∧ Aside0 (NInv w0 w' Bn ns) ∧ Aside0 (Others w w'))
 case atStart => exact ⟨0, rfl, ⟨rfl⟩, ⟨Nat.zero_le _⟩, HD, HC, HT, HV1, HO1⟩
 case round =>
  clear HD HC HT HV1 HO1 ct1
  obtain ⟨i, rfl, HK, HI, HD, HC, HT, HV1, HO1⟩ := hrel
  by_cases d1 : i < ns.length
  ·have d1b : decide ((i : Int) < (ns.length : Int)) = true := decide_eq_true (by omega)
   have d1c : decide (i < ns.length) = true := decide_eq_true d1
   obtain ⟨gt, gc, eg, _, _, _⟩ := Kd.R_form HT.out (by omega)
   injection eg with eg _ eg2
   subst eg eg2
   obtain ⟨y1, y2⟩ := Kd.R_celln ByteArray.empty HT.out (i : Int) (by omega) (by omega)
   have HS := Aside0.mk (any_step ns s i d1)
   have D1 := Aside0.mk d1
   rw [Int.toNat_natCast] at y1 y2
   have HM := Aside0.mk (Kd.R_reads' HT.out).2.2.2.1
   cases d2 : ((rdOf ByteArray.empty ns (i : Int)).toList == s.toList) with
   | true =>
    have HP2 := Aside0.mk (show p = (6, ns) by
     have hp := HP.out
     rw [HD.out, HS.out, d2] at hp
     simpa using hp.symm)
    clear HP
    go_wp2
    go_ret
    have e_ := HP2.out
    subst e_
    exact ⟨rfl, HV1.out, HO1.out⟩
   | false =>
    go_wp2
    go_roundg (ns.length - (i + 1))
    case measure => have := HK.out; have := D1.out; omega
    case rel => exact ⟨i + 1, by congr 1; have := HM.out; have := D1.out; (first | omega | (unfold wrap64; omega) | (show wrap64 _ = _; unfold wrap64; omega)), ⟨rfl⟩, ⟨D1.out⟩, ⟨by rw [HD.out, HS.out, d2, Bool.false_or]⟩, HC, HT, HV1, HO1⟩
  ·have d1b : decide ((i : Int) < (ns.length : Int)) = false := decide_eq_false (by omega)
   have d1c : decide (i < ns.length) = false := decide_eq_false d1
   have hp := HP.out
   have hd : (ns.any fun o => o.toList == s.toList) = false := by rw [HD.out, List.drop_eq_nil_of_le (by omega)]; rfl
   rw [hd, if_neg Bool.false_ne_true] at hp
   by_cases d3 : ns.length < 1000000
   case neg => rw [if_neg d3] at hp; cases hp
   rw [if_pos d3] at hp
   have HP2 := Aside0.mk (Option.some.inj hp).symm
   have D3 := Aside0.mk d3
   have cb := cell_of_one HC.out
   clear hp hd HP d3
   go_wp2_with (first
    | ((with_reducible refine gate_builtin (b := .append) (xs := #[.tmp 19, .tmp 21]) rfl ?_); at_builtin; refine Kd.R_append Kd.string (w0 := w0) w0.heap.size rfl (.tmp 19) (.tmp 21) 34 9 (.string ⟨#[]⟩) 16 rfl Try.underlying34 info9 rfl (by decide) (by omega) (.slice At ns.length ct) ns s [.string s] (fun _ => True) (fun _ => False) rfl rfl ?aP (fun _ hk => hk.elim) ?aF ?aO ?aB ?aS ?aL ?_; (case aP => exact rfl); (case aF => exact (fun _ _ => trivial)); (case aO => exact HT.out); (case aB => exact HV1.out.B); (case aS => exact HV1.out.B.size); (case aL => have := D3.out; omega); intro v2 w2 ho hb hg hat; obtain ⟨A2, k2, rfl⟩ := Kd.R_slice ho; have HX := Aside0.mk (NInv.push HV1.out HT.out ho hb hg); obtain ⟨c2, hc2⟩ := Option.ne_none_iff_exists'.mp HX.out.2.2.1; have hf2 := HX.out.2.2.2; clear ho hb hg hat))
   go_ret
   have e_ := HP2.out
   subst e_
   have x_ := HX.out
   rw [List.length_append] at x_
   exact ⟨rfl, x_.1, HO1.out.trans x_.2.1⟩

def net_Check.l1 : Nat → List S46 → List S41 → List ByteArray → Int → Option (Int × Int)
 | 0, _, _, _, _ => none
 | k + 1, l1, l2, ns, i => if i < (l2.length : Int) then (if 0 ≤ i then ((addM ns (rd_T41 l2 i).f0).bind fun p => if p.1 = 0 then ((net_checkTrans.f k (rd_T41 l2 i).f0 (rd_T41 l2 i).f1 (rd_T41 l2 i).f2 (rd_T41 l2 i).f3 (rd_T41 l2 i).f4 (l1.length : Int)).bind fun e => if e = 0 then net_Check.l1 k l1 l2 p.2 (wrap64 (i + 1)) else some (e, wrap64 ((l1.length : Int) + i))) else some (p.1, wrap64 ((l1.length : Int) + i))) else none) else some (0, 0)
def net_Check.l0 : Nat → List S46 → List S41 → List ByteArray → Int → Option (Int × Int)
 | 0, _, _, _, _ => none
 | k + 1, l1, l2, ns, i => if i < (l1.length : Int) then (if 0 ≤ i then ((addM ns (rd_T46 l1 i).f0).bind fun p => if p.1 = 0 then ((net_checkPlace.f (rd_T46 l1 i).f0 (rd_T46 l1 i).f1 (rd_T46 l1 i).f2).bind fun e => if e = 0 then net_Check.l0 k l1 l2 p.2 (wrap64 (i + 1)) else some (e, i)) else some (p.1, i)) else none) else net_Check.l1 k l1 l2 ns 0
def net_Check.f (k : Nat) (a0_0 : ByteArray) (l0_1 : List (S46)) (l0_2 : List (S41)) : Option (Int × Int) := if nameB a0_0 = true then (if (l0_1.length : Int) < 1 ∨ (24 : Int) < (l0_1.length : Int) ∨ (24 : Int) < (l0_2.length : Int) then some (2, 0) else net_Check.l0 k l0_1 l0_2 [] 0) else some (5, 0)
theorem net_Check.mono_l : ∀ k, (∀ y0 y1 y2 y3, LeO (net_Check.l0 k y0 y1 y2 y3) (net_Check.l0 (k + 1) y0 y1 y2 y3)) ∧ (∀ y0 y1 y2 y3, LeO (net_Check.l1 k y0 y1 y2 y3) (net_Check.l1 (k + 1) y0 y1 y2 y3))
 | 0 => ⟨fun _ _ _ _ r h => by simp [net_Check.l0] at h, fun _ _ _ _ r h => by simp [net_Check.l1] at h⟩
 | k + 1 => by
  obtain ⟨ih0, ih1⟩ := net_Check.mono_l k
  refine ⟨?_, ?_⟩
  ·intro y0 y1 y2 y3
   unfold net_Check.l0
   repeat' first | exact ih0 _ _ _ _ | exact ih1 _ _ _ _ | exact LeO.refl _ | exact LeO.none _ | refine LeO.ite ?_ ?_ | refine LeO.bind (LeO.refl _) (fun _ => ?_)
  ·intro y0 y1 y2 y3
   unfold net_Check.l1
   repeat' first | exact ih1 _ _ _ _ | exact net_checkTrans.mono _ _ _ _ _ _ _ | exact LeO.refl _ | exact LeO.none _ | refine LeO.ite ?_ ?_ | refine LeO.bind (LeO.refl _) (fun _ => ?_) | refine LeO.bind (net_checkTrans.mono _ _ _ _ _ _ _) (fun _ => ?_)
theorem net_Check.mono : ∀ a0 a1 a2 k, LeO (net_Check.f k a0 a1 a2) (net_Check.f (k + 1) a0 a1 a2) := by
 intro a0 a1 a2 k
 unfold net_Check.f
 exact LeO.ite (LeO.ite (LeO.refl _) ((net_Check.mono_l k).1 _ _ _ _)) (LeO.refl _)
/-- What stands while a net is checked: the net, the result, the names. -/
structure KInv (w0 w : World) (Bx Br Bn : Nat) (net : Array Value) (ns : List ByteArray) : Prop where
 nv : NInv w0 w Bn ns
 bx : w.heap[Bx]? = some (.cells net 25 (0, 0))
 br : w.heap[Br]? = some (.cells #[.int .i64 0, .int .i64 0] 61 (0, 0))
 rb : w0.heap.size ≤ Br
theorem KInv.move {w0 w w1 : World} {Bx Br Bn : Nat} {net : Array Value} {ns ns' : List ByteArray} (h : KInv w0 w Bx Br Bn net ns) (hn : NInv w0 w1 Bn ns') (o : Others w w1) : KInv w0 w1 Bx Br Bn net ns' := ⟨hn, o.2 _ _ _ h.bx (by decide) (by decide), o.2 _ _ _ h.br (by decide) (by decide), h.rb⟩
theorem KInv.below {w0 w w1 : World} {Bx Br Bn : Nat} {net : Array Value} {ns : List ByteArray} (h : KInv w0 w Bx Br Bn net ns) (hb : Below w.heap.size w w1) : KInv w0 w1 Bx Br Bn net ns := h.move (h.nv.below hb) (Others.below hb)
theorem heapArc : Kd.Heap k43 := Kd.heap_iso _ (Kd.heap_pair (Kd.heap_int _) (Kd.heap_int _))
/-- The result is written. -/
theorem res_put {W : World} {Br : Nat} {x y a b : Int} (h : W.heap[Br]? = some (.cells #[.int .i64 x, .int .i64 y] 61 (0, 0))) : ((W.setCell ⟨Br, 0, none⟩ (.int .i64 a)).setCell ⟨Br, 1, none⟩ (.int .i64 b)).heap[Br]? = some (.cells #[.int .i64 a, .int .i64 b] 61 (0, 0)) :=
 blk_put (cs := #[.int .i64 a, .int .i64 y]) (blk_put (cs := #[.int .i64 x, .int .i64 y]) h 0 _ rfl) 1 _ rfl
theorem res_facts {W : World} {Br : Nat} (h : W.heap[Br]? = some (.cells #[.int .i64 0, .int .i64 0] 61 (0, 0))) : W.cell? ⟨Br, 0, none⟩ = some (.int .i64 0) ∧ W.cell? ⟨Br, 1, none⟩ = some (.int .i64 0) ∧ W.frozen? ⟨Br, 0, none⟩ = false ∧ W.frozen? ⟨Br, 1, none⟩ = false := ⟨(blk_cell h 0).trans rfl, (blk_cell h 1).trans rfl, blk_frozen h 0, blk_frozen h 1⟩
theorem net_facts {W : World} {B : Nat} {x y z : Value} (h : W.heap[B]? = some (.cells #[x, y, z] 25 (0, 0))) : W.cell? ⟨B, 0, none⟩ = some x ∧ W.cell? ⟨B, 1, none⟩ = some y ∧ W.cell? ⟨B, 2, none⟩ = some z := ⟨(blk_cell h 0).trans rfl, (blk_cell h 1).trans rfl, (blk_cell h 2).trans rfl⟩
theorem place_facts {W : World} {B : Nat} {x y z : Value} (h : W.heap[B]? = some (.cells #[x, y, z] 46 (0, 0))) : W.cell? ⟨B, 0, none⟩ = some x ∧ W.cell? ⟨B, 1, none⟩ = some y ∧ W.cell? ⟨B, 2, none⟩ = some z := ⟨(blk_cell h 0).trans rfl, (blk_cell h 1).trans rfl, (blk_cell h 2).trans rfl⟩
theorem trans_facts {W : World} {B : Nat} {x y z u v : Value} (h : W.heap[B]? = some (.cells #[x, y, z, u, v] 41 (0, 0))) : W.cell? ⟨B, 0, none⟩ = some x ∧ W.cell? ⟨B, 1, none⟩ = some y ∧ W.cell? ⟨B, 2, none⟩ = some z ∧ W.cell? ⟨B, 3, none⟩ = some u ∧ W.cell? ⟨B, 4, none⟩ = some v := ⟨(blk_cell h 0).trans rfl, (blk_cell h 1).trans rfl, (blk_cell h 2).trans rfl, (blk_cell h 3).trans rfl, (blk_cell h 4).trans rfl⟩

set_option maxHeartbeats 4000000 in
set_option maxRecDepth 100000 in
theorem net_Check.calls (k : Nat) (a0_0 : ByteArray) (A0_1 : Option Addr) (c0_1 : Nat) (l0_1 : List (S46)) (A0_2 : Option Addr) (c0_2 : Nat) (l0_2 : List (S41)) (r1 : Int) (r2 : Int) (w : World) (hr0_1 : Kd.C k46 w A0_1 l0_1.length l0_1) (hc0_1 : l0_1.length ≤ c0_1) (hr0_2 : Kd.C k41 w A0_2 l0_2.length l0_2) (hc0_2 : l0_2.length ≤ c0_2) (h : net_Check.f k a0_0 l0_1 l0_2 = some (r1, r2)) :
  Calls Try.prog 68 #[.agg #[.string a0_0, .slice A0_1 l0_1.length c0_1, .slice A0_2 l0_2.length c0_2]] w fun e w' => e = .returned (.agg #[.int .i64 r1, .int .i64 r2]) ∧ Below w.heap.size w w' := by
 have hu1 := Try.underlying25
 have hu2 := Try.underlying61
 have hu3 := Try.underlying46
 have hu4 := Try.underlying41
 have HR1 := Aside0.mk hr0_1
 have HC1 := Aside0.mk hc0_1
 have HR2 := Aside0.mk hr0_2
 have HC2 := Aside0.mk hc0_2
 clear hr0_1 hc0_1 hr0_2 hc0_2
 have W1 : (w.alloc (.cells #[.string a0_0, .slice A0_1 l0_1.length c0_1, .slice A0_2 l0_2.length c0_2] 25)).heap[w.heap.size]? = some (.cells #[.string a0_0, .slice A0_1 l0_1.length c0_1, .slice A0_2 l0_2.length c0_2] 25 (0, 0)) := alloc_new _ _
 have hs1 : (w.alloc (.cells #[.string a0_0, .slice A0_1 l0_1.length c0_1, .slice A0_2 l0_2.length c0_2] 25)).heap.size = w.heap.size + 1 := by simp
 obtain ⟨w2, hw2⟩ : ∃ w2 : World, w2 = (w.alloc (.cells #[.string a0_0, .slice A0_1 l0_1.length c0_1, .slice A0_2 l0_2.length c0_2] 25)).alloc (.cells #[.int .i64 0, .int .i64 0] 61) := ⟨_, rfl⟩
 have BX2 := Aside0.mk (show w2.heap[w.heap.size]? = some (.cells #[.string a0_0, .slice A0_1 l0_1.length c0_1, .slice A0_2 l0_2.length c0_2] 25 (0, 0)) by rw [hw2]; exact blk_below W1 (below_alloc (Below.refl _ _) _))
 have BR2 := Aside0.mk (show w2.heap[w.heap.size + 1]? = some (.cells #[.int .i64 0, .int .i64 0] 61 (0, 0)) by rw [hw2, ← hs1]; exact alloc_new _ _)
 have BB2 := Aside0.mk (show Below w.heap.size w w2 by rw [hw2]; exact below_alloc (below_alloc (Below.refl _ _) _) _)
 obtain ⟨cx0, cx1, cx2⟩ := net_facts BX2.out
 obtain ⟨cr0, cr1, fr0, fr1⟩ := res_facts BR2.out
 rw [hw2] at cx0 cx1 cx2 cr0 cr1 fr0 fr1
 have HW2 := Aside0.mk hw2
 clear W1 hs1 hw2
 unfold net_Check.f at h
 by_cases n1 : nameB a0_0 = true
 case neg =>
  rw [if_neg n1] at h
  simp only [Option.some.injEq, Prod.mk.injEq] at h
  obtain ⟨rfl, rfl⟩ := h
  have HN := Aside0.mk (show net_Name.f a0_0 = some false by unfold net_Name.f; rw [Bool.not_eq_true] at n1; rw [n1])
  clear n1
  go_enter Try.func68, Try.ntmps68
  go_wp2_with (first | (go_at_call 88; refine (net_Name.calls _ _ _ HN.out).mono ?_; rintro e w3 ⟨rfl, hb⟩; rw [← HW2.out] at hb; have BX3 := Aside0.mk (blk_below BX2.out hb); have BR3 := Aside0.mk (blk_below BR2.out hb); have BB3 := Aside0.mk (BB2.out.trans (hb.mono BB2.out.size)); obtain ⟨dx0, dx1, dx2⟩ := net_facts BX3.out; obtain ⟨dr0, dr1, er0, er1⟩ := res_facts BR3.out; clear hb))
  refine bodyPost_ret (results_cell_row rfl _ _ (w.heap.size + 1) 61 #[.int .i64 5, .int .i64 0] (0, 0) _ rfl (res_put BR3.out) Try.underlying61 rfl (by kernel_rfl)) rfl ?_
  exact ⟨rfl, below_set (below_set BB3.out (Nat.le_succ _)) (Nat.le_succ _)⟩
 rw [if_pos n1] at h
 have HN := Aside0.mk (show net_Name.f a0_0 = some true by unfold net_Name.f; rw [n1])
 clear n1
 by_cases z : (l0_1.length : Int) < 1 ∨ (24 : Int) < (l0_1.length : Int) ∨ (24 : Int) < (l0_2.length : Int)
 case pos =>
  rw [if_pos z] at h
  simp only [Option.some.injEq, Prod.mk.injEq] at h
  obtain ⟨rfl, rfl⟩ := h
  by_cases z1 : (l0_1.length : Int) < 1
  case pos =>
   have z1b : decide ((l0_1.length : Int) < 1) = true := decide_eq_true (by omega)
   have z1c : decide (l0_1.length < 1) = true := decide_eq_true (by omega)
   clear z
   go_enter Try.func68, Try.ntmps68
   go_wp2_with (first | (go_at_call 88; refine (net_Name.calls _ _ _ HN.out).mono ?_; rintro e w3 ⟨rfl, hb⟩; rw [← HW2.out] at hb; have BX3 := Aside0.mk (blk_below BX2.out hb); have BR3 := Aside0.mk (blk_below BR2.out hb); have BB3 := Aside0.mk (BB2.out.trans (hb.mono BB2.out.size)); obtain ⟨dx0, dx1, dx2⟩ := net_facts BX3.out; obtain ⟨dr0, dr1, er0, er1⟩ := res_facts BR3.out; clear hb))
   refine bodyPost_ret (results_cell_row rfl _ _ (w.heap.size + 1) 61 #[.int .i64 2, .int .i64 0] (0, 0) _ rfl (res_put BR3.out) Try.underlying61 rfl (by kernel_rfl)) rfl ?_
   exact ⟨rfl, below_set (below_set BB3.out (Nat.le_succ _)) (Nat.le_succ _)⟩
  have z1b : decide ((l0_1.length : Int) < 1) = false := decide_eq_false (by omega)
  have z1c : decide (l0_1.length < 1) = false := decide_eq_false (by omega)
  by_cases z2 : 24 < (l0_1.length : Int)
  case pos =>
   have z2b : decide (24 < (l0_1.length : Int)) = true := decide_eq_true (by omega)
   have z2c : decide (24 < l0_1.length) = true := decide_eq_true (by omega)
   clear z
   go_enter Try.func68, Try.ntmps68
   go_wp2_with (first | (go_at_call 88; refine (net_Name.calls _ _ _ HN.out).mono ?_; rintro e w3 ⟨rfl, hb⟩; rw [← HW2.out] at hb; have BX3 := Aside0.mk (blk_below BX2.out hb); have BR3 := Aside0.mk (blk_below BR2.out hb); have BB3 := Aside0.mk (BB2.out.trans (hb.mono BB2.out.size)); obtain ⟨dx0, dx1, dx2⟩ := net_facts BX3.out; obtain ⟨dr0, dr1, er0, er1⟩ := res_facts BR3.out; clear hb))
   refine bodyPost_ret (results_cell_row rfl _ _ (w.heap.size + 1) 61 #[.int .i64 2, .int .i64 0] (0, 0) _ rfl (res_put BR3.out) Try.underlying61 rfl (by kernel_rfl)) rfl ?_
   exact ⟨rfl, below_set (below_set BB3.out (Nat.le_succ _)) (Nat.le_succ _)⟩
  have z2b : decide (24 < (l0_1.length : Int)) = false := decide_eq_false (by omega)
  have z2c : decide (24 < l0_1.length) = false := decide_eq_false (by omega)
  have z3 : 24 < (l0_2.length : Int) := (z.resolve_left z1).resolve_left z2
  have z3b : decide (24 < (l0_2.length : Int)) = true := decide_eq_true (by omega)
  have z3c : decide (24 < l0_2.length) = true := decide_eq_true (by omega)
  clear z
  go_enter Try.func68, Try.ntmps68
  go_wp2_with (first | (go_at_call 88; refine (net_Name.calls _ _ _ HN.out).mono ?_; rintro e w3 ⟨rfl, hb⟩; rw [← HW2.out] at hb; have BX3 := Aside0.mk (blk_below BX2.out hb); have BR3 := Aside0.mk (blk_below BR2.out hb); have BB3 := Aside0.mk (BB2.out.trans (hb.mono BB2.out.size)); obtain ⟨dx0, dx1, dx2⟩ := net_facts BX3.out; obtain ⟨dr0, dr1, er0, er1⟩ := res_facts BR3.out; clear hb))
  refine bodyPost_ret (results_cell_row rfl _ _ (w.heap.size + 1) 61 #[.int .i64 2, .int .i64 0] (0, 0) _ rfl (res_put BR3.out) Try.underlying61 rfl (by kernel_rfl)) rfl ?_
  exact ⟨rfl, below_set (below_set BB3.out (Nat.le_succ _)) (Nat.le_succ _)⟩
 rw [if_neg z] at h
 have z1b : decide ((l0_1.length : Int) < 1) = false := decide_eq_false (by omega)
 have z1c : decide (l0_1.length < 1) = false := decide_eq_false (by omega)
 have z2b : decide (24 < (l0_1.length : Int)) = false := decide_eq_false (by omega)
 have z2c : decide (24 < l0_1.length) = false := decide_eq_false (by omega)
 have z3b : decide (24 < (l0_2.length : Int)) = false := decide_eq_false (by omega)
 have z3c : decide (24 < l0_2.length) = false := decide_eq_false (by omega)
 have hmf : ∀ (fn : Fn) (first cap : Array Value) (w : World), (Instr.makeFunc fn first cap).run Try.prog w = .ok (.func fn first cap) w := fun _ _ _ _ => rfl
 have H := Aside0.mk h
 clear h
 go_enter Try.func68, Try.ntmps68
 go_wp2_with (first | (go_at_call 88; refine (net_Name.calls _ _ _ HN.out).mono ?_; rintro e w3 ⟨rfl, hb⟩; rw [← HW2.out] at hb; have BX3 := Aside0.mk (blk_below BX2.out hb); have BR3 := Aside0.mk (blk_below BR2.out hb); have BB3 := Aside0.mk (BB2.out.trans (hb.mono BB2.out.size)); obtain ⟨dx0, dx1, dx2⟩ := net_facts BX3.out; obtain ⟨dr0, dr1, er0, er1⟩ := res_facts BR3.out; clear hb; obtain ⟨ex0, ex1, ex2⟩ := net_facts (blk_below BX3.out (below_alloc (Below.refl _ _) (.cells #[.slice none 0 0] 34)))))
 have HK := Aside0.mk (show KInv w (w3.alloc (.cells #[.slice none 0 0] 34)) w.heap.size (w.heap.size + 1) w3.heap.size #[.string a0_0, .slice A0_1 l0_1.length c0_1, .slice A0_2 l0_2.length c0_2] [] from ⟨⟨⟨.slice none 0 0, alloc_new _ _, Kd.R_nil _ _ _ _ _⟩, below_alloc BB3.out _, BB3.out.size⟩, blk_below BX3.out (below_alloc (Below.refl _ _) _), blk_below BR3.out (below_alloc (Below.refl _ _) _), Nat.le_succ _⟩)
 obtain ⟨Bn, hBn⟩ : ∃ Bn, Bn = w3.heap.size := ⟨_, rfl⟩
 rw [← hBn] at HK ⊢
 clear ex0 ex1 ex2 dx0 dx1 dx2 dr0 dr1 er0 er1 BX3 BR3 BB3 hBn cx0 cx1 cx2 cr0 cr1 fr0 fr1 BX2 BR2 BB2 HW2 z1b z1c z2b z2c z3b z3c z HN
 go_loopg [37] k (fun kq v37 w' => ∃ (i : Int) (ns : List ByteArray), v37 = .int .i64 i ∧ Aside0 (net_Check.l0 kq l0_1 l0_2 ns i = some (r1, r2)) ∧ Aside0 (kq ≤ k) ∧ Aside0 (KInv w w' w.heap.size (w.heap.size + 1) Bn #[.string a0_0, .slice A0_1 l0_1.length c0_1, .slice A0_2 l0_2.length c0_2] ns))
 case atStart => exact ⟨0, [], rfl, H, ⟨Nat.le_refl _⟩, HK⟩
 case round =>
  clear H HK
  obtain ⟨i, ns, rfl, HA, HJ, HK⟩ := hrel
  cases gk with
  | zero => exact absurd HA.out (by simp [net_Check.l0])
  | succ k1 =>
  have H := HA.out
  clear HA
  simp only [net_Check.l0] at H
  by_cases d1 : i < (l0_1.length : Int)
  case neg =>
   rw [if_neg d1] at H
   have d1b : decide (i < (l0_1.length : Int)) = false := decide_eq_false d1
   have H' := Aside0.mk H
   clear H d1
   obtain ⟨dx0, dx1, dx2⟩ := net_facts HK.out.bx
   go_wp2
   clear dx0 dx1 dx2 d1b
   go_loopg [59] k1 (fun kq v59 w' => ∃ (i : Int) (ns : List ByteArray), v59 = .int .i64 i ∧ Aside0 (net_Check.l1 kq l0_1 l0_2 ns i = some (r1, r2)) ∧ Aside0 (kq ≤ k1) ∧ Aside0 (KInv w w' w.heap.size (w.heap.size + 1) Bn #[.string a0_0, .slice A0_1 l0_1.length c0_1, .slice A0_2 l0_2.length c0_2] ns))
   case atStart => exact ⟨0, ns, rfl, H', ⟨Nat.le_refl _⟩, HK⟩
   case round =>
    clear H' HK
    obtain ⟨i, ns, rfl, HA, HJ2, HK⟩ := hrel
    cases gk with
    | zero => exact absurd HA.out (by simp [net_Check.l1])
    | succ k3 =>
    have H := HA.out
    clear HA
    simp only [net_Check.l1] at H
    by_cases d1 : i < (l0_2.length : Int)
    case neg =>
     rw [if_neg d1] at H
     have d1b : decide (i < (l0_2.length : Int)) = false := decide_eq_false d1
     simp only [Option.some.injEq, Prod.mk.injEq] at H
     obtain ⟨rfl, rfl⟩ := H
     obtain ⟨dr0, dr1, er0, er1⟩ := res_facts HK.out.br
     clear d1
     go_wp2
     refine bodyPost_ret (results_cell_row rfl _ _ (w.heap.size + 1) 61 #[.int .i64 0, .int .i64 0] (0, 0) _ rfl (res_put HK.out.br) Try.underlying61 rfl (by kernel_rfl)) rfl ?_
     exact ⟨rfl, below_set (below_set HK.out.nv.B (Nat.le_succ _)) (Nat.le_succ _)⟩
    rw [if_pos d1] at H
    have d1b : decide (i < (l0_2.length : Int)) = true := decide_eq_true d1
    by_cases d2 : 0 ≤ i
    case neg => rw [if_neg d2] at H; cases H
    rw [if_pos d2] at H
    obtain ⟨⟨p1, ns1⟩, hp, H⟩ := Option.bind_eq_some_iff.mp H
    have HP := Aside0.mk hp
    clear hp
    obtain ⟨ad, A1, c1, A2, c2, A3, c3, eA, y0, y1, y2, y3, y4, m1, g1, m2, g2, m3, g3⟩ := at_T41 HR2.out i d2 d1
    subst eA
    have u0 := pw_cell_below HK.out.nv.B y0
    have u1 := pw_cell_below HK.out.nv.B y1
    have u2 := pw_cell_below HK.out.nv.B y2
    have u3 := pw_cell_below HK.out.nv.B y3
    have u4 := pw_cell_below HK.out.nv.B y4
    clear y0 y1 y2 y3 y4
    have M1 := Aside0.mk m1
    have M2 := Aside0.mk m2
    have M3 := Aside0.mk m3
    have G1 := Aside0.mk g1
    have G2 := Aside0.mk g2
    have G3 := Aside0.mk g3
    clear m1 m2 m3 g1 g2 g3
    have q1 : (0 ≤ i) = True := eq_true d2
    have q2 : (i < (l0_2.length : Int)) = True := eq_true d1
    have HK1 := Aside0.mk (HK.out.below (below_alloc (Below.refl _ _) (.cells #[.string (rd_T41 l0_2 i).f0, .slice A1 (rd_T41 l0_2 i).f1.length c1, .slice A2 (rd_T41 l0_2 i).f2.length c2, .slice A3 (rd_T41 l0_2 i).f3.length c3, .int .i64 (rd_T41 l0_2 i).f4] 41)))
    have HPl := Aside0.mk (alloc_new wr (.cells #[.string (rd_T41 l0_2 i).f0, .slice A1 (rd_T41 l0_2 i).f1.length c1, .slice A2 (rd_T41 l0_2 i).f2.length c2, .slice A3 (rd_T41 l0_2 i).f3.length c3, .int .i64 (rd_T41 l0_2 i).f4] 41))
    obtain ⟨v0, v1, v2, v3, v4⟩ := trans_facts HPl.out
    by_cases d3 : p1 = 0
    case neg =>
     have d3b : (p1 == 0) = false := beq_eq_false_iff_ne.mpr d3
     have d3c : (p1 != 0) = true := bne_iff_ne.mpr d3
     rw [if_neg d3] at H
     simp only [Option.some.injEq, Prod.mk.injEq] at H
     obtain ⟨rfl, rfl⟩ := H
     clear d3
     go_wp2_with (first | (go_at_call 89; refine (add_calls w _ Bn ns _ _ HK1.out.nv HP.out).mono ?_; rintro e w4 ⟨rfl, hn, ho⟩; have HK2 := Aside0.mk (HK1.out.move hn ho); have HPm := Aside0.mk (ho.2 _ _ _ HPl.out (by decide) (by decide)); obtain ⟨t0, t1, t2, t3, t4⟩ := trans_facts HPm.out; obtain ⟨dr0, dr1, er0, er1⟩ := res_facts HK2.out.br; obtain ⟨dx0, dx1, dx2⟩ := net_facts HK2.out.bx; clear hn ho))
     refine bodyPost_ret (results_cell_row rfl _ _ (w.heap.size + 1) 61 #[.int .i64 p1, .int .i64 (wrap64 ((l0_1.length : Int) + i))] (0, 0) _ rfl (res_put HK2.out.br) Try.underlying61 rfl (by kernel_rfl)) rfl ?_
     exact ⟨rfl, below_set (below_set HK2.out.nv.B (Nat.le_succ _)) (Nat.le_succ _)⟩
    have d3b : (p1 == 0) = true := beq_iff_eq.mpr d3
    rw [if_pos d3] at H
    obtain ⟨e1, he, H⟩ := Option.bind_eq_some_iff.mp H
    have HE := Aside0.mk he
    clear he
    by_cases d4 : e1 = 0
    case neg =>
     have d4b : (e1 == 0) = false := beq_eq_false_iff_ne.mpr d4
     have d4c : (e1 != 0) = true := bne_iff_ne.mpr d4
     rw [if_neg d4] at H
     simp only [Option.some.injEq, Prod.mk.injEq] at H
     obtain ⟨rfl, rfl⟩ := H
     clear d4 d3
     go_wp2_with (first | (go_at_call 89; refine (add_calls w _ Bn ns _ _ HK1.out.nv HP.out).mono ?_; rintro e w4 ⟨rfl, hn, ho⟩; have HK2 := Aside0.mk (HK1.out.move hn ho); have HPm := Aside0.mk (ho.2 _ _ _ HPl.out (by decide) (by decide)); obtain ⟨t0, t1, t2, t3, t4⟩ := trans_facts HPm.out; obtain ⟨dr0, dr1, er0, er1⟩ := res_facts HK2.out.br; obtain ⟨dx0, dx1, dx2⟩ := net_facts HK2.out.bx; clear hn ho) | (go_at_call 91; refine (net_checkTrans.calls k3 _ (fun k_ => k_ < w4.heap.size) A1 c1 _ (fun k_ => k_ < w4.heap.size) A2 c2 _ (fun k_ => k_ < w4.heap.size) A3 c3 _ _ _ _ _ (Kd.V_mk M1.out (Kd.C_F heapArc (Kd.C_below G1.out HK2.out.nv.B))) (Kd.V_mk M2.out (Kd.C_F heapArc (Kd.C_below G2.out HK2.out.nv.B))) (Kd.V_mk M3.out (Kd.C_F heapArc (Kd.C_below G3.out HK2.out.nv.B))) HE.out).mono ?_; rintro e w5 ⟨rfl, hb⟩; have HK3 := Aside0.mk (HK2.out.below hb); obtain ⟨dr0, dr1, er0, er1⟩ := res_facts HK3.out.br; obtain ⟨dx0, dx1, dx2⟩ := net_facts HK3.out.bx; clear hb))
     refine bodyPost_ret (results_cell_row rfl _ _ (w.heap.size + 1) 61 #[.int .i64 e1, .int .i64 (wrap64 ((l0_1.length : Int) + i))] (0, 0) _ rfl (res_put HK3.out.br) Try.underlying61 rfl (by kernel_rfl)) rfl ?_
     exact ⟨rfl, below_set (below_set HK3.out.nv.B (Nat.le_succ _)) (Nat.le_succ _)⟩
    have d4b : (e1 == 0) = true := beq_iff_eq.mpr d4
    have d4c : (e1 != 0) = false := by rw [bne, d4b]; rfl
    rw [if_pos d4] at H
    have HM := Aside0.mk (show (l0_2.length : Int) ≤ 9223372036854775807 by have := HR2.out.2.1; omega)
    rw [show wrap64 (i + 1) = i + 1 by have := HM.out; unfold wrap64; omega] at H
    have H' := Aside0.mk H
    clear H d4 d3
    go_wp2_with (first | (go_at_call 89; refine (add_calls w _ Bn ns _ _ HK1.out.nv HP.out).mono ?_; rintro e w4 ⟨rfl, hn, ho⟩; have HK2 := Aside0.mk (HK1.out.move hn ho); have HPm := Aside0.mk (ho.2 _ _ _ HPl.out (by decide) (by decide)); obtain ⟨t0, t1, t2, t3, t4⟩ := trans_facts HPm.out; obtain ⟨dr0, dr1, er0, er1⟩ := res_facts HK2.out.br; obtain ⟨dx0, dx1, dx2⟩ := net_facts HK2.out.bx; clear hn ho) | (go_at_call 91; refine (net_checkTrans.calls k3 _ (fun k_ => k_ < w4.heap.size) A1 c1 _ (fun k_ => k_ < w4.heap.size) A2 c2 _ (fun k_ => k_ < w4.heap.size) A3 c3 _ _ _ _ _ (Kd.V_mk M1.out (Kd.C_F heapArc (Kd.C_below G1.out HK2.out.nv.B))) (Kd.V_mk M2.out (Kd.C_F heapArc (Kd.C_below G2.out HK2.out.nv.B))) (Kd.V_mk M3.out (Kd.C_F heapArc (Kd.C_below G3.out HK2.out.nv.B))) HE.out).mono ?_; rintro e w5 ⟨rfl, hb⟩; have HK3 := Aside0.mk (HK2.out.below hb); obtain ⟨dr0, dr1, er0, er1⟩ := res_facts HK3.out.br; obtain ⟨dx0, dx1, dx2⟩ := net_facts HK3.out.bx; clear hb))
    go_roundg k3
    case measure => have := HJ2.out; omega
    case rel => exact ⟨_, _, (by congr 1; have := HM.out; (first | omega | (unfold wrap64; omega) | (show wrap64 _ = _; unfold wrap64; omega))), H', ⟨by have := HJ2.out; omega⟩, HK3⟩
  rw [if_pos d1] at H
  have d1b : decide (i < (l0_1.length : Int)) = true := decide_eq_true d1
  by_cases d2 : 0 ≤ i
  case neg => rw [if_neg d2] at H; cases H
  rw [if_pos d2] at H
  obtain ⟨⟨p1, ns1⟩, hp, H⟩ := Option.bind_eq_some_iff.mp H
  have HP := Aside0.mk hp
  clear hp
  obtain ⟨ad, eA, y0, y1, y2⟩ := at_T46 HR1.out i d2 d1
  subst eA
  have u0 := pw_cell_below HK.out.nv.B y0
  have u1 := pw_cell_below HK.out.nv.B y1
  have u2 := pw_cell_below HK.out.nv.B y2
  clear y0 y1 y2
  have q1 : (0 ≤ i) = True := eq_true d2
  have q2 : (i < (l0_1.length : Int)) = True := eq_true d1
  have HK1 := Aside0.mk (HK.out.below (below_alloc (Below.refl _ _) (.cells #[.string (rd_T46 l0_1 i).f0, .int .i64 (rd_T46 l0_1 i).f1, .int .i64 (rd_T46 l0_1 i).f2] 46)))
  have HPl := Aside0.mk (alloc_new wr (.cells #[.string (rd_T46 l0_1 i).f0, .int .i64 (rd_T46 l0_1 i).f1, .int .i64 (rd_T46 l0_1 i).f2] 46))
  obtain ⟨v0, v1, v2⟩ := place_facts HPl.out
  by_cases d3 : p1 = 0
  case neg =>
   have d3b : (p1 == 0) = false := beq_eq_false_iff_ne.mpr d3
   have d3c : (p1 != 0) = true := bne_iff_ne.mpr d3
   rw [if_neg d3] at H
   simp only [Option.some.injEq, Prod.mk.injEq] at H
   obtain ⟨rfl, rfl⟩ := H
   clear d3
   go_wp2_with (first | (go_at_call 89; refine (add_calls w _ Bn ns _ _ HK1.out.nv HP.out).mono ?_; rintro e w4 ⟨rfl, hn, ho⟩; have HK2 := Aside0.mk (HK1.out.move hn ho); have HPm := Aside0.mk (ho.2 _ _ _ HPl.out (by decide) (by decide)); obtain ⟨t0, t1, t2⟩ := place_facts HPm.out; obtain ⟨dr0, dr1, er0, er1⟩ := res_facts HK2.out.br; clear hn ho))
   refine bodyPost_ret (results_cell_row rfl _ _ (w.heap.size + 1) 61 #[.int .i64 p1, .int .i64 i] (0, 0) _ rfl (res_put HK2.out.br) Try.underlying61 rfl (by kernel_rfl)) rfl ?_
   exact ⟨rfl, below_set (below_set HK2.out.nv.B (Nat.le_succ _)) (Nat.le_succ _)⟩
  have d3b : (p1 == 0) = true := beq_iff_eq.mpr d3
  rw [if_pos d3] at H
  obtain ⟨e1, he, H⟩ := Option.bind_eq_some_iff.mp H
  have HE := Aside0.mk he
  clear he
  by_cases d4 : e1 = 0
  case neg =>
   have d4b : (e1 == 0) = false := beq_eq_false_iff_ne.mpr d4
   have d4c : (e1 != 0) = true := bne_iff_ne.mpr d4
   rw [if_neg d4] at H
   simp only [Option.some.injEq, Prod.mk.injEq] at H
   obtain ⟨rfl, rfl⟩ := H
   clear d4 d3
   go_wp2_with (first | (go_at_call 89; refine (add_calls w _ Bn ns _ _ HK1.out.nv HP.out).mono ?_; rintro e w4 ⟨rfl, hn, ho⟩; have HK2 := Aside0.mk (HK1.out.move hn ho); have HPm := Aside0.mk (ho.2 _ _ _ HPl.out (by decide) (by decide)); obtain ⟨t0, t1, t2⟩ := place_facts HPm.out; obtain ⟨dr0, dr1, er0, er1⟩ := res_facts HK2.out.br; clear hn ho) | (go_at_call 90; refine (net_checkPlace.calls _ _ _ _ _ HE.out).mono ?_; rintro e w5 ⟨rfl, hb⟩; have HK3 := Aside0.mk (HK2.out.below hb); obtain ⟨dr0, dr1, er0, er1⟩ := res_facts HK3.out.br; clear hb))
   refine bodyPost_ret (results_cell_row rfl _ _ (w.heap.size + 1) 61 #[.int .i64 e1, .int .i64 i] (0, 0) _ rfl (res_put HK3.out.br) Try.underlying61 rfl (by kernel_rfl)) rfl ?_
   exact ⟨rfl, below_set (below_set HK3.out.nv.B (Nat.le_succ _)) (Nat.le_succ _)⟩
  have d4b : (e1 == 0) = true := beq_iff_eq.mpr d4
  have d4c : (e1 != 0) = false := by rw [bne, d4b]; rfl
  rw [if_pos d4] at H
  have HM := Aside0.mk (show (l0_1.length : Int) ≤ 9223372036854775807 by have := HR1.out.2.1; omega)
  rw [show wrap64 (i + 1) = i + 1 by have := HM.out; unfold wrap64; omega] at H
  have H' := Aside0.mk H
  clear H d4 d3
  go_wp2_with (first | (go_at_call 89; refine (add_calls w _ Bn ns _ _ HK1.out.nv HP.out).mono ?_; rintro e w4 ⟨rfl, hn, ho⟩; have HK2 := Aside0.mk (HK1.out.move hn ho); have HPm := Aside0.mk (ho.2 _ _ _ HPl.out (by decide) (by decide)); obtain ⟨t0, t1, t2⟩ := place_facts HPm.out; obtain ⟨dr0, dr1, er0, er1⟩ := res_facts HK2.out.br; clear hn ho) | (go_at_call 90; refine (net_checkPlace.calls _ _ _ _ _ HE.out).mono ?_; rintro e w5 ⟨rfl, hb⟩; have HK3 := Aside0.mk (HK2.out.below hb); obtain ⟨dr0, dr1, er0, er1⟩ := res_facts HK3.out.br; clear hb))
  go_roundg k1
  case measure => have := HJ.out; omega
  case rel => exact ⟨_, _, (by congr 1; have := HM.out; (first | omega | (unfold wrap64; omega) | (show wrap64 _ = _; unfold wrap64; omega))), H', ⟨by have := HJ.out; omega⟩, HK3⟩

/-! ### netclass_valid: function 37 -/
def netclass_valid.f (k : Nat) (a0_0 : ByteArray) (l0_1 : List (S46)) (l0_2 : List (S41)) : Option (Bool) := (net_Check.f k a0_0 l0_1 l0_2).bind fun bt117 => (some (bt117.1 == 0))
theorem netclass_valid.mono : ∀ a0 a1 a2 k, LeO (netclass_valid.f k a0 a1 a2) (netclass_valid.f (k + 1) a0 a1 a2) := by
 intro a0 a1 a2 k
 unfold netclass_valid.f
 repeat' first | (with_reducible first | apply net_Check.mono | apply lr | apply ln | apply li | refine lb ?_ fun _ => ?_)
set_option maxHeartbeats 8000000 in
set_option maxRecDepth 100000 in
theorem netclass_valid.calls (k : Nat) (a0_0 : ByteArray) (A0_1 : Option Addr) (c0_1 : Nat) (l0_1 : List (S46)) (A0_2 : Option Addr) (c0_2 : Nat) (l0_2 : List (S41)) (r : Bool) (w : World) (hr0_1 : Kd.C k46 w A0_1 l0_1.length l0_1) (hc0_1 : l0_1.length ≤ c0_1) (hr0_2 : Kd.C k41 w A0_2 l0_2.length l0_2) (hc0_2 : l0_2.length ≤ c0_2) (h : netclass_valid.f k a0_0 l0_1 l0_2 = some r) :
  Calls Try.prog 37 #[.agg #[.string a0_0, .slice A0_1 l0_1.length c0_1, .slice A0_2 l0_2.length c0_2]] w fun e w' => e = .returned (.bool r) ∧ Below w.heap.size w w' := by
 have hf61_0 : ∀ (x0 x1 : Value) (W : World), (Instr.field 61 (.agg #[x0, x1]) 0).run Try.prog W = .ok x0 W := fun x0 x1 W => by kernel_rfl
 have hu25 := Try.underlying25
 have HR0_1 := am hr0_1
 have HC0_1 := am hc0_1
 clear hr0_1 hc0_1
 have HR0_2 := am hr0_2
 have HC0_2 := am hc0_2
 clear hr0_2 hc0_2
 have HB := am (Below.refl w.heap.size w)
 have H : ((net_Check.f k a0_0 l0_1 l0_2).bind fun bt117 => (some (bt117.1 == 0))) = some r := h
 clear h
 replace H := bnd H
 obtain ⟨⟨t117, t118⟩, A2, H⟩ := H
 (try dsimp only at H)
 obtain rfl := Option.some.inj H
 go_enter Try.func37, Try.ntmps37
 go_wp2_with (first | ((with_reducible refine gate_dst (N := 1) rfl ?_); refine box_ev (N := 1) (cs := #[.string a0_0, .slice A0_1 l0_1.length c0_1, .slice A0_2 l0_2.length c0_2]) (t := 25) ?_; intro gb116 hg w3 hbox hb; have BK116 := am hbox; have GW116 := gwl hg; have GE116 := GW116; replace HB := bsl hb; clear hb hbox hg; have z4 := cf3 BK116.1) | ((with_reducible refine gate_callee (f := 68) rfl ?_); refine gC 4 Try.func68 _ (net_Check.calls k a0_0 _ _ l0_1 _ _ l0_2 t117 t118 _ (csb HR0_1 HB) HC0_1.1 (csb HR0_2 HB) HC0_2.1 A2.1) ?_; rintro e w5 ⟨rfl, hb⟩; refine ⟨_, rfl, ?_⟩; replace BK116 := bbh BK116 hb; replace HB := bst hb; (try clear hb)))
 go_ret
 exact ⟨per, pbg⟩

/-! ### netclass_Flow: function 12 -/
mutual
def netclass_Flow.l0 : Nat → Int → List (List Int) → List (S41) → Int → Int → Option ((List (List Int)))
 | 0, _, _, _, _, _ => none
 | k + 1, x3, x4, x24, x25, x26 => if x26 < x25 then (if 0 ≤ x26 then (if x26 < (x24.length : Int) then (netclass_Flow.l1 k x3 x4 x26 x24 x25 x26 ((rd_T41 x24 x26).f1) (((rd_T41 x24 x26).f1).length : Int) 0 ((rd_T41 x24 x26).f0) ((rd_T41 x24 x26).f1) ((rd_T41 x24 x26).f2) ((rd_T41 x24 x26).f3) ((rd_T41 x24 x26).f4)) else (none)) else (none)) else (some x4)
def netclass_Flow.l1 : Nat → Int → List (List Int) → Int → List (S41) → Int → Int → List (S43) → Int → Int → ByteArray → List (S43) → List (S43) → List (S43) → Int → Option ((List (List Int)))
 | 0, _, _, _, _, _, _, _, _, _, _, _, _, _, _ => none
 | k + 1, x3, x4, x5, x24, x25, x26, x32, x33, x34, x126000, x126001, x126002, x126003, x126004 => if x34 < x33 then (if 0 ≤ x34 then (if x34 < (x32.length : Int) then (if 0 ≤ ((rd_T43 x32 x34).f0) then (if ((rd_T43 x32 x34).f0) < (x4.length : Int) then (if (rd_L11 x4 ((rd_T43 x32 x34).f0)).length < 17592186044416 then (netclass_Flow.l1 k x3 (x4.set (((rd_T43 x32 x34).f0) : Int).toNat ((rd_L11 x4 ((rd_T43 x32 x34).f0)) ++ [wrap64 (x3 + x5)])) x5 x24 x25 x26 x32 x33 (wrap64 (x34 + 1)) x126000 x126001 x126002 x126003 x126004) else (none)) else (none)) else (none)) else (none)) else (none)) else (netclass_Flow.l2 k x3 x4 x5 x24 x25 x26 x126002 (x126002.length : Int) 0)
def netclass_Flow.l2 : Nat → Int → List (List Int) → Int → List (S41) → Int → Int → List (S43) → Int → Int → Option ((List (List Int)))
 | 0, _, _, _, _, _, _, _, _, _ => none
 | k + 1, x3, x4, x5, x24, x25, x26, x54, x55, x56 => if x56 < x55 then (if 0 ≤ x56 then (if x56 < (x54.length : Int) then (if 0 ≤ (wrap64 (x3 + x5)) then (if (wrap64 (x3 + x5)) < (x4.length : Int) then (if (rd_L11 x4 (wrap64 (x3 + x5))).length < 17592186044416 then (netclass_Flow.l2 k x3 (x4.set ((wrap64 (x3 + x5)) : Int).toNat ((rd_L11 x4 (wrap64 (x3 + x5))) ++ [(rd_T43 x54 x56).f0])) x5 x24 x25 x26 x54 x55 (wrap64 (x56 + 1))) else (none)) else (none)) else (none)) else (none)) else (none)) else (netclass_Flow.l0 k x3 x4 x24 x25 (wrap64 (x26 + 1)))
end
def netclass_Flow.f (k : Nat) (a0_0 : ByteArray) (l0_1 : List (S46)) (l0_2 : List (S41)) : Option ((List (List Int))) := (netclass_valid.f k a0_0 l0_1 l0_2).bind fun t120 => (if t120 = true then (if 0 ≤ (wrap64 ((l0_1.length : Int) + (l0_2.length : Int))) then (if (wrap64 ((l0_1.length : Int) + (l0_2.length : Int)) : Int).toNat ≤ 11728124029610 then (netclass_Flow.l0 k (l0_1.length : Int) (List.replicate (wrap64 ((l0_1.length : Int) + (l0_2.length : Int)) : Int).toNat []) l0_2 (l0_2.length : Int) 0) else (none)) else (none)) else (some ([] : List (List Int))))
theorem netclass_Flow.mono_l : ∀ k, M5 netclass_Flow.l0 k ∧ M14 netclass_Flow.l1 k ∧ M9 netclass_Flow.l2 k
 | 0 => ⟨fun _ _ _ _ _ r h => by simp [netclass_Flow.l0] at h, fun _ _ _ _ _ _ _ _ _ _ _ _ _ _ r h => by simp [netclass_Flow.l1] at h, fun _ _ _ _ _ _ _ _ _ r h => by simp [netclass_Flow.l2] at h⟩
 | k + 1 => by
  obtain ⟨ih0, ih1, ih2⟩ := netclass_Flow.mono_l k
  refine ⟨?_, ?_, ?_⟩ <;> dsimp only [M5, M9, M14] <;> intros <;> (first | unfold netclass_Flow.l0 | unfold netclass_Flow.l1 | unfold netclass_Flow.l2) <;> repeat' first | (with_reducible first | apply ih0 | apply ih1 | apply ih2 | apply netclass_valid.mono | apply lr | apply ln | apply li | refine lb ?_ fun _ => ?_)
theorem netclass_Flow.mono : ∀ a0 a1 a2 k, LeO (netclass_Flow.f k a0 a1 a2) (netclass_Flow.f (k + 1) a0 a1 a2) := by
 intro a0 a1 a2 k
 obtain ⟨ih0, ih1, ih2⟩ := netclass_Flow.mono_l k
 unfold netclass_Flow.f
 repeat' first | (with_reducible first | apply ih0 | apply ih1 | apply ih2 | apply netclass_valid.mono | apply lr | apply ln | apply li | refine lb ?_ fun _ => ?_)
def netclass_Flow.T11 : Bool × List (List Nat × List Nat) := (true, [([], []), ([], []), ([1], [1]), ([], []), ([], []), ([4], [4]), ([3, 5], [3, 5]), ([6], [6]), ([], []), ([], []), ([8, 9], [8, 9]), ([10], [10]), ([7, 11], [7, 11]), ([0, 2, 0, 1, 2, 3, 4, 5, 6, 7, 8, 9, 10, 11, 12], [0, 2]), ([13, 12, 12, 0, 1, 2, 3, 4, 5, 6, 7, 8, 9, 10, 11, 12], [12, 13])])
def netclass_Flow.B11 : List Nat := [0, 0, 2, 0, 0, 16, 56, 120, 0, 0, 768, 1792, 4088, 8191, 16383]
theorem netclass_Flow.tab11 : rtab .any (opsOf Try.f12 11) = netclass_Flow.T11 := by kernel_rfl
theorem netclass_Flow.bits11 : waitsOk netclass_Flow.T11.2 netclass_Flow.B11 = true := by kernel_rfl
def netclass_Flow.T16 : Bool × List (List Nat × List Nat) := (true, [([], []), ([], []), ([], []), ([1, 2], [1, 2]), ([], []), ([], []), ([], []), ([5, 6], [5, 6]), ([4, 7], [4, 7]), ([8], [8]), ([], []), ([10], [10]), ([11], [11]), ([9, 12], [9, 12]), ([0, 3, 0, 1, 2, 3, 4, 5, 6, 7, 8, 9, 10, 11, 12, 13], [0, 3]), ([14, 13, 13, 0, 1, 2, 3, 4, 5, 6, 7, 8, 9, 10, 11, 12, 13], [13, 14])])
def netclass_Flow.B16 : List Nat := [0, 0, 0, 6, 0, 0, 0, 96, 240, 496, 0, 1024, 3072, 8176, 16383, 32767]
theorem netclass_Flow.tab16 : rtab .any (opsOf Try.f12 16) = netclass_Flow.T16 := by kernel_rfl
theorem netclass_Flow.bits16 : waitsOk netclass_Flow.T16.2 netclass_Flow.B16 = true := by kernel_rfl
set_option maxHeartbeats 8000000 in
set_option maxRecDepth 100000 in
theorem netclass_Flow.calls (k : Nat) (a0_0 : ByteArray) (A0_1 : Option Addr) (c0_1 : Nat) (l0_1 : List (S46)) (A0_2 : Option Addr) (c0_2 : Nat) (l0_2 : List (S41)) (r : List (List Int)) (w : World) (hr0_1 : Kd.C k46 w A0_1 l0_1.length l0_1) (hc0_1 : l0_1.length ≤ c0_1) (hr0_2 : Kd.C k41 w A0_2 l0_2.length l0_2) (hc0_2 : l0_2.length ≤ c0_2) (h : netclass_Flow.f k a0_0 l0_1 l0_2 = some r) :
  Calls Try.prog 12 #[.agg #[.string a0_0, .slice A0_1 l0_1.length c0_1, .slice A0_2 l0_2.length c0_2]] w fun e w' => ∃ v0_ : Value, e = .returned (v0_) ∧ Kd.S (Kd.slice 3 (Kd.int .i64)) 37 w' w.heap.size (fun _ => True) v0_ r ∧ Below w.heap.size w w' := by
 have hu25 := Try.underlying25
 have hu41 := Try.underlying41
 have hu43 := Try.underlying43
 have HR0_1 := am hr0_1
 have HC0_1 := am hc0_1
 clear hr0_1 hc0_1
 have HR0_2 := am hr0_2
 have HC0_2 := am hc0_2
 clear hr0_2 hc0_2
 have HB := am (Below.refl w.heap.size w)
 have H : ((netclass_valid.f k a0_0 l0_1 l0_2).bind fun t120 => (if t120 = true then (if 0 ≤ (wrap64 ((l0_1.length : Int) + (l0_2.length : Int))) then (if (wrap64 ((l0_1.length : Int) + (l0_2.length : Int)) : Int).toNat ≤ 11728124029610 then (netclass_Flow.l0 k (l0_1.length : Int) (List.replicate (wrap64 ((l0_1.length : Int) + (l0_2.length : Int)) : Int).toNat []) l0_2 (l0_2.length : Int) 0) else (none)) else (none)) else (some ([] : List (List Int))))) = some r := h
 clear h
 replace H := bnd H
 obtain ⟨t120, A2, H⟩ := H
 (try dsimp only at H)
 by_cases c3 : t120 = true
 rotate_left
 ·replace c3 := Bool.eq_false_iff.mpr c3
  subst c3
  rw [if_neg Bool.false_ne_true] at H
  obtain rfl := Option.some.inj H
  go_enter Try.func12, Try.ntmps12
  go_wp2_with (first | ((with_reducible refine gate_dst (N := 1) rfl ?_); refine box_ev (N := 1) (cs := #[.string a0_0, .slice A0_1 l0_1.length c0_1, .slice A0_2 l0_2.length c0_2]) (t := 25) ?_; intro gb119 hg w61 hbox hb; have BK119 := am hbox; have GW119 := gwl hg; have GE119 := GW119; replace HB := bsl hb; clear hb hbox hg; have z62 := cf3 BK119.1) | ((with_reducible refine gate_callee (f := 37) rfl ?_); refine gC 12 Try.func37 _ (netclass_valid.calls k a0_0 _ _ l0_1 _ _ l0_2 false _ (csb HR0_1 HB) HC0_1.1 (csb HR0_2 HB) HC0_2.1 A2.1) ?_; rintro e w63 ⟨rfl, hb⟩; refine ⟨_, rfl, ?_⟩; replace BK119 := bbh BK119 hb; replace HB := bst hb; (try clear hb)))
  go_ret
  exact ⟨_, per, knl, pbg⟩
 subst c3
 rw [if_pos rfl] at H
 obtain ⟨ji4, hji4⟩ : ∃ j_ : Int, (wrap64 ((l0_1.length : Int) + (l0_2.length : Int))) = j_ := ⟨_, rfl⟩
 replace H : (if 0 ≤ (ji4) then (if (ji4 : Int).toNat ≤ 11728124029610 then (netclass_Flow.l0 k (l0_1.length : Int) (List.replicate (ji4 : Int).toNat []) l0_2 (l0_2.length : Int) 0) else (none)) else (none)) = some r := by first | (rw [hji4] at H; exact H) | (simp only [hji4] at H ⊢; exact H)
 (try rw [hji4] at A2)
 have hji4w : (IntKind.i64.wrap ((l0_1.length : Int) + (l0_2.length : Int))) = ji4 := (i64_w _).trans hji4
 replace H := ifp H
 obtain ⟨c5, H⟩ := H
 have c5b0 := eq_true c5
 have c5b1 : decide (0 ≤ (ji4)) = true := decide_eq_true c5
 clear c5
 replace H := ifp H
 obtain ⟨c6, H⟩ := H
 have c6b0 := eq_true c6
 have c6b1 : decide ((ji4 : Int).toNat ≤ 11728124029610) = true := decide_eq_true c6
 clear c6
 obtain ⟨y121, hy121⟩ : ∃ y_ : List (List Int), y_ = (List.replicate (ji4 : Int).toNat []) := ⟨_, rfl⟩
 replace H : (netclass_Flow.l0 k (l0_1.length : Int) y121 l0_2 (l0_2.length : Int) 0) = some r := hrp hy121 H
 have Ny121 := am hy121
 clear hy121
 have H' := am H
 clear H
 go_enter Try.func12, Try.ntmps12
 go_wp2_with (first | ((with_reducible refine gate_dst (N := 1) rfl ?_); refine box_ev (N := 1) (cs := #[.string a0_0, .slice A0_1 l0_1.length c0_1, .slice A0_2 l0_2.length c0_2]) (t := 25) ?_; intro gb119 hg w7 hbox hb; have BK119 := am hbox; have GW119 := gwl hg; have GE119 := GW119; replace HB := bsl hb; clear hb hbox hg; have z8 := cf3 BK119.1) | ((with_reducible refine gate_callee (f := 37) rfl ?_); refine gC 12 Try.func37 _ (netclass_valid.calls k a0_0 _ _ l0_1 _ _ l0_2 true _ (csb HR0_1 HB) HC0_1.1 (csb HR0_2 HB) HC0_2.1 A2.1) ?_; rintro e w9 ⟨rfl, hb⟩; refine ⟨_, rfl, ?_⟩; replace BK119 := bbh BK119 hb; replace HB := bst hb; (try clear hb); have z10 := cf3 BK119.1) | ((with_reducible refine gate_dst (N := 22) rfl ?_); refine Kd.S_make (Kd.slice 3 (Kd.int .i64)) _ 37 rfl (N := 22) rfl 30 _ _ rfl ji4 rfl rfl Try.underlying30 (.slice none 0 0) 24 info37 rfl (by decide) (by omega) [] (ok := fun _ => True) (okp := fun _ => True) ⟨_, rfl, Kd.R_nil _ _ _ _ _⟩ (fun _ hk => hk) trivial (dq) (Nat.le_trans (Nat.mul_le_mul_right _ (dq : ji4.toNat ≤ 11728124029610)) (by omega)) (Below.refl _ _) (Nat.le_refl _) ?_; intro v122 w11 ho12 hb hg_ hnew_; clear hg_ hnew_; (first | rw [← Ny121.1] at ho12 | (simp only [Int.reduceToNat] at ho12; rw [← Ny121.1] at ho12)); have HO123 := am (Kd.S_lower ho12 (below_size pbg)); replace BK119 := bbh BK119 hb; replace HB := bst hb; clear hb ho12; have z13 := cf3 BK119.1))
 go_loopg [26] k (fun kq v26 w' => ∃ (x4_1 : List (List Int)) (x26_1 : Int), v26 = .int .i64 x26_1 ∧ Aside0 (netclass_Flow.l0 kq (l0_1.length : Int) x4_1 l0_2 (l0_2.length : Int) x26_1 = some r) ∧ Aside0 (kq ≤ k) ∧ Aside0 (Kd.S (Kd.slice 3 (Kd.int .i64)) 37 w' w.heap.size (fun _ => True) v122 x4_1) ∧ Aside0 (w'.heap[gb119]? = some (.cells #[.string a0_0, (.slice A0_1 l0_1.length c0_1), (.slice A0_2 l0_2.length c0_2)] 25 (0, 0))) ∧ Aside0 (Below w.heap.size w w'))
 case atStart => exact ⟨(y121), (0), prs, H', ⟨Nat.le_refl _⟩, ⟨pks HO123.1⟩, ⟨pbk BK119.1⟩, ⟨pbg⟩⟩
 clear H'
 try clear c3 c5 c5b0 c5b1 c6 c6b0 c6b1 z10 z13 z8
 obtain ⟨x4_1, x26_1, rfl, HA, HK1, HO_4, BK119, HB⟩ := hrel
 obtain _ | k1 := gk
 ·exact absurd HA.1 (by simp [netclass_Flow.l0])
 have H := HA.1
 clear HA
 simp only [netclass_Flow.l0] at H
 by_cases c14 : x26_1 < (l0_2.length : Int)
 rotate_left
 ·rw [if_neg c14] at H
  have c14b0 : decide (x26_1 < (l0_2.length : Int)) = false := decide_eq_false c14
  clear c14
  obtain rfl := Option.some.inj H
  go_wp2
  go_ret
  exact ⟨_, by first | rfl | (simp [errW_none, errW_some] <;> rfl) | (simp only [← hji4]; first | rfl | (simp [errW_none, errW_some] <;> rfl)) | (simp [*, errW_none, errW_some] <;> rfl), by (with_reducible repeat (first | apply Kd.S_alloc | apply Kd.S_drewN | apply Kd.S_drew)); exact HO_4.1, pbg⟩
 rw [if_pos c14] at H
 have c14b0 : decide (x26_1 < (l0_2.length : Int)) = true := decide_eq_true c14
 clear c14
 replace H := ifp H
 obtain ⟨c15, H⟩ := H
 have c15b0 := decide_eq_true c15
 clear c15
 replace H := ifp H
 obtain ⟨c16, H⟩ := H
 have c16b0 := decide_eq_true c16
 clear c16
 have H' := am H
 clear H
 obtain ⟨p124, q124, ad124, A124_1, c124_1, A124_2, c124_2, A124_3, c124_3, e124, hx124_0, hx124_1, hx124_2, hx124_3, hx124_4, HC124_1, HR124_1, HC124_2, HR124_2, HC124_3, HR124_3⟩ := bT41 HR0_2.1 HB.1 x26_1
 cases e124
 go_wp2_with (first | ((with_reducible refine gate_dst (N := 6) rfl ?_); refine box_ev (N := 6) (cs := #[.string (⟨#[]⟩ : ByteArray), .slice none 0 0, .slice none 0 0, .slice none 0 0, .int .i64 0]) (t := 41) ?_; intro gb125 hg w17 hbox hb; have BK125 := am hbox; have GW125 := gwb hg; have GE125 := GW125; have NB119_125 := nlt hg BK119; have NB125_119 := ngt hg BK119; replace HO_4 := sbw HO_4 hb; replace BK119 := bbh BK119 hb; replace HB := bst hb; clear hb hbox hg; have hnb18 := NB125_119.1; have hnc18 := NB119_125.1; have z19 := cf5 BK125.1))
 go_loopg [34] k1 (fun kq v34 w' => ∃ (x4_2 : List (List Int)) (x34_2 : Int), v34 = .int .i64 x34_2 ∧ Aside0 (netclass_Flow.l1 kq (l0_1.length : Int) x4_2 x26_1 l0_2 (l0_2.length : Int) x26_1 ((rd_T41 l0_2 x26_1).f1) (((rd_T41 l0_2 x26_1).f1).length : Int) x34_2 ((rd_T41 l0_2 x26_1).f0) ((rd_T41 l0_2 x26_1).f1) ((rd_T41 l0_2 x26_1).f2) ((rd_T41 l0_2 x26_1).f3) ((rd_T41 l0_2 x26_1).f4) = some r) ∧ Aside0 (kq ≤ k1) ∧ Aside0 (Kd.S (Kd.slice 3 (Kd.int .i64)) 37 w' w.heap.size (fun _ => True) v122 x4_2) ∧ Aside0 (w'.heap[gb119]? = some (.cells #[.string a0_0, (.slice A0_1 l0_1.length c0_1), (.slice (some ad124) l0_2.length c0_2)] 25 (0, 0))) ∧ Aside0 (w'.heap[gb125]? = some (.cells #[.string ((rd_T41 l0_2 x26_1).f0), (.slice A124_1 ((rd_T41 l0_2 x26_1).f1).length c124_1), (.slice A124_2 ((rd_T41 l0_2 x26_1).f2).length c124_2), (.slice A124_3 ((rd_T41 l0_2 x26_1).f3).length c124_3), .int .i64 ((rd_T41 l0_2 x26_1).f4)] 41 (0, 0))) ∧ Aside0 (Below w.heap.size w w'))
 case atStart => exact ⟨(x4_1), (0), prs, H', ⟨Nat.le_refl _⟩, ⟨by (with_reducible repeat (first | apply Kd.S_alloc | apply Kd.S_drewN | apply Kd.S_drew)); exact Kd.S_mono (Kd.S_far (p := ⟨gb125, 4, none⟩) (Kd.S_far (p := ⟨gb125, 3, none⟩) (Kd.S_far (p := ⟨gb125, 2, none⟩) (Kd.S_far (p := ⟨gb125, 1, none⟩) (Kd.S_far (p := ⟨gb125, 0, none⟩) (Kd.S_types HO_4.1 BK125.1 (by decide)) (fun _ hk => hk.2) _) (fun _ hk => hk.2) _) (fun _ hk => hk.2) _) (fun _ hk => hk.2) _) (fun _ hk => hk.2) _) (fun _ hk => trivial)⟩, ⟨by (with_reducible repeat (first | refine blk_drewN ?_ _ | refine blk_drew ?_ | refine blk_alloc ?_ _)); refine bf5 ?_ NB119_125.1; exact pbk BK119.1⟩, ⟨by (with_reducible repeat (first | refine blk_drewN ?_ _ | refine blk_drew ?_ | refine blk_alloc ?_ _)); exact bp5 (pbk BK125.1)⟩, ⟨pbg⟩⟩
 clear H'
 try clear c3 c5 c5b0 c5b1 c6 c6b0 c6b1 c14 c14b0 c15 c15b0 c16 c16b0 z10 z13 z19 z8 hx124_0 hx124_1 hx124_2 hx124_3 hx124_4 p124 q124
 obtain ⟨x4_2, x34_2, rfl, HA, HK2, HO_4, BK119, BK125, HB⟩ := hrel
 obtain _ | k2 := gk
 ·exact absurd HA.1 (by simp [netclass_Flow.l1])
 have H := HA.1
 clear HA
 simp only [netclass_Flow.l1] at H
 by_cases c20 : x34_2 < (((rd_T41 l0_2 x26_1).f1).length : Int)
 ·rw [if_pos c20] at H
  have c20b0 : decide (x34_2 < (((rd_T41 l0_2 x26_1).f1).length : Int)) = true := decide_eq_true c20
  clear c20
  replace H := ifp H
  obtain ⟨c21, H⟩ := H
  have c21b0 := decide_eq_true c21
  clear c21
  replace H := ifp H
  obtain ⟨c22, H⟩ := H
  have c22b0 := decide_eq_true c22
  clear c22
  replace H := ifp H
  obtain ⟨c23, H⟩ := H
  have c23b0 := decide_eq_true c23
  clear c23
  replace H := ifp H
  obtain ⟨c24, H⟩ := H
  have c24b0 := decide_eq_true c24
  clear c24
  replace H := ifp H
  obtain ⟨c25, H⟩ := H
  have LMc25 := am c25
  clear c25
  obtain ⟨y129, hy129⟩ : ∃ y_ : List Int, y_ = ((rd_L11 x4_2 ((rd_T43 ((rd_T41 l0_2 x26_1).f1) x34_2).f0)) ++ [wrap64 ((l0_1.length : Int) + x26_1)]) := ⟨_, rfl⟩
  replace H : (netclass_Flow.l1 k2 (l0_1.length : Int) (x4_2.set (((rd_T43 ((rd_T41 l0_2 x26_1).f1) x34_2).f0) : Int).toNat y129) x26_1 l0_2 (l0_2.length : Int) x26_1 ((rd_T41 l0_2 x26_1).f1) (((rd_T41 l0_2 x26_1).f1).length : Int) (wrap64 (x34_2 + 1)) ((rd_T41 l0_2 x26_1).f0) ((rd_T41 l0_2 x26_1).f1) ((rd_T41 l0_2 x26_1).f2) ((rd_T41 l0_2 x26_1).f3) ((rd_T41 l0_2 x26_1).f4)) = some r := hrp hy129 H
  have Ny129 := am hy129
  clear hy129
  obtain ⟨y132, hy132⟩ : ∃ y_ : List (List Int), y_ = (x4_2.set (((rd_T43 ((rd_T41 l0_2 x26_1).f1) x34_2).f0) : Int).toNat y129) := ⟨_, rfl⟩
  replace H : (netclass_Flow.l1 k2 (l0_1.length : Int) y132 x26_1 l0_2 (l0_2.length : Int) x26_1 ((rd_T41 l0_2 x26_1).f1) (((rd_T41 l0_2 x26_1).f1).length : Int) (wrap64 (x34_2 + 1)) ((rd_T41 l0_2 x26_1).f0) ((rd_T41 l0_2 x26_1).f1) ((rd_T41 l0_2 x26_1).f2) ((rd_T41 l0_2 x26_1).f3) ((rd_T41 l0_2 x26_1).f4)) = some r := hrp hy132 H
  have Ny132 := am hy132
  clear hy132
  have H' := am H
  clear H
  obtain ⟨p126, q126, ad126, e126, hx126_0, hx126_1⟩ := bT43 HR124_1.1 HB.1 x34_2
  cases e126
  try go_wp2_with (first | ((with_reducible refine gate_dst (N := 8) rfl ?_); refine box_ev (N := 8) (cs := #[.int .i64 0, .int .i64 0]) (t := 43) ?_; intro gb127 hg w27 hbox hb; have BK127 := am hbox; have GW127 := gwb hg; have GE127 := GW127; have NB119_127 := nlt hg BK119; have NB127_119 := ngt hg BK119; have NB125_127 := nlt hg BK125; have NB127_125 := ngt hg BK125; replace HO_4 := sbw HO_4 hb; replace BK119 := bbh BK119 hb; replace BK125 := bbh BK125 hb; replace HB := bst hb; clear hb hbox hg; have hnb28 := NB127_119.1; have hnc28 := NB119_127.1; have hnb29 := NB127_125.1; have hnc29 := NB125_127.1; have z30 := cf2 BK127.1))
  have n0_ : Aside0 (Kd.S (Kd.slice 3 (Kd.int .i64)) 37 ((w27.setCell ⟨gb127, 0, none⟩ (.int .i64 ((rd_T43 ((rd_T41 l0_2 x26_1).f1) x34_2).f0))).setCell ⟨gb127, 1, none⟩ (.int .i64 ((rd_T43 ((rd_T41 l0_2 x26_1).f1) x34_2).f1))) w.heap.size (fun _ => True) v122 x4_2) := ⟨by (with_reducible repeat (first | apply Kd.S_alloc | apply Kd.S_drewN | apply Kd.S_drew)); exact Kd.S_mono (Kd.S_far (p := ⟨gb127, 1, none⟩) (Kd.S_far (p := ⟨gb127, 0, none⟩) (Kd.S_types HO_4.1 BK127.1 (by decide)) (fun _ hk => hk.2) (.int .i64 ((rd_T43 ((rd_T41 l0_2 x26_1).f1) x34_2).f0))) (fun _ hk => hk.2) (.int .i64 ((rd_T43 ((rd_T41 l0_2 x26_1).f1) x34_2).f1))) (fun _ hk => trivial)⟩
  have n1_ : Aside0 (((w27.setCell ⟨gb127, 0, none⟩ (.int .i64 ((rd_T43 ((rd_T41 l0_2 x26_1).f1) x34_2).f0))).setCell ⟨gb127, 1, none⟩ (.int .i64 ((rd_T43 ((rd_T41 l0_2 x26_1).f1) x34_2).f1))).heap[gb119]? = some (.cells #[.string a0_0, .slice A0_1 l0_1.length c0_1, .slice (some ad124) l0_2.length c0_2] 25 (0, 0))) := ⟨by (with_reducible repeat (first | refine blk_drewN ?_ _ | refine blk_drew ?_ | refine blk_alloc ?_ _)); refine bf2 ?_ NB119_127.1; exact pbk BK119.1⟩
  have n2_ : Aside0 (((w27.setCell ⟨gb127, 0, none⟩ (.int .i64 ((rd_T43 ((rd_T41 l0_2 x26_1).f1) x34_2).f0))).setCell ⟨gb127, 1, none⟩ (.int .i64 ((rd_T43 ((rd_T41 l0_2 x26_1).f1) x34_2).f1))).heap[gb125]? = some (.cells #[.string ((rd_T41 l0_2 x26_1).f0), .slice (some ad126) ((rd_T41 l0_2 x26_1).f1).length c124_1, .slice A124_2 ((rd_T41 l0_2 x26_1).f2).length c124_2, .slice A124_3 ((rd_T41 l0_2 x26_1).f3).length c124_3, .int .i64 ((rd_T41 l0_2 x26_1).f4)] 41 (0, 0))) := ⟨by (with_reducible repeat (first | refine blk_drewN ?_ _ | refine blk_drew ?_ | refine blk_alloc ?_ _)); refine bf2 ?_ NB125_127.1; exact pbk BK125.1⟩
  have n3_ : Aside0 (((w27.setCell ⟨gb127, 0, none⟩ (.int .i64 ((rd_T43 ((rd_T41 l0_2 x26_1).f1) x34_2).f0))).setCell ⟨gb127, 1, none⟩ (.int .i64 ((rd_T43 ((rd_T41 l0_2 x26_1).f1) x34_2).f1))).heap[gb127]? = some (.cells #[.int .i64 ((rd_T43 ((rd_T41 l0_2 x26_1).f1) x34_2).f0), .int .i64 ((rd_T43 ((rd_T41 l0_2 x26_1).f1) x34_2).f1)] 43 (0, 0))) := ⟨by (with_reducible repeat (first | refine blk_drewN ?_ _ | refine blk_drew ?_ | refine blk_alloc ?_ _)); exact bp2 (pbk BK127.1)⟩
  have n4_ : Aside0 (Below w.heap.size w ((w27.setCell ⟨gb127, 0, none⟩ (.int .i64 ((rd_T43 ((rd_T41 l0_2 x26_1).f1) x34_2).f0))).setCell ⟨gb127, 1, none⟩ (.int .i64 ((rd_T43 ((rd_T41 l0_2 x26_1).f1) x34_2).f1)))) := ⟨pbg⟩
  (try clear HO_4)
  (try clear BK119)
  (try clear BK125)
  (try clear BK127)
  (try clear HB)
  generalize ((w27.setCell ⟨gb127, 0, none⟩ (.int .i64 ((rd_T43 ((rd_T41 l0_2 x26_1).f1) x34_2).f0))).setCell ⟨gb127, 1, none⟩ (.int .i64 ((rd_T43 ((rd_T41 l0_2 x26_1).f1) x34_2).f1))) = w31 at n0_ n1_ n2_ n3_ n4_ ⊢
  have HO_4 := n0_
  have BK119 := n1_
  have BK125 := n2_
  have BK127 := n3_
  have HB := n4_
  clear n0_ n1_ n2_ n3_ n4_
  replace HO_4 := am (Kd.S_drew HO_4.1)
  replace BK119 := am (blk_drew BK119.1)
  replace BK125 := am (blk_drew BK125.1)
  replace BK127 := am (blk_drew BK127.1)
  replace HB := am (below_drew1 HB.1)
  obtain ⟨Ao33, co33, eo33⟩ := Kd.S_slice HO_4.1
  (first | subst eo33 | (injection eo33 with f1_ f2_ f3_; have f4_ := f1_.symm; have f5_ := f3_.symm; clear f1_ f2_ f3_; subst f4_; subst f5_))
  have p128 : 0 ≤ (((rd_T43 ((rd_T41 l0_2 x26_1).f1) x34_2).f0) : Int) := dq
  have q128 : ((rd_T43 ((rd_T41 l0_2 x26_1).f1) x34_2).f0) < (x4_2.length : Int) := dq
  obtain ⟨ad128, A128_0, c128_0, e128, hx128_0, hl128_0, hi128_0⟩ := at_L11 (Kd.S_reads' HO_4.1).2.2 ((rd_T43 ((rd_T41 l0_2 x26_1).f1) x34_2).f0) p128 q128
  cases e128
  obtain ⟨ce128, hce128, hMe128, hcc128⟩ := Kd.S_get HO_4.1 [] ((rd_T43 ((rd_T41 l0_2 x26_1).f1) x34_2).f0) p128 (by first | exact q128 | exact dq | (have e_ := (Kd.S_reads' HO_4.1).1; omega))
  obtain ⟨ve128_0, rfl, ge128_0⟩ := hMe128
  have hv128_0 := hcc128 0 _ rfl
  rw [Nat.add_zero, show ((Kd.slice 3 (Kd.int .i64))).sz = 1 from rfl, Nat.mul_one] at hv128_0
  replace hv128_0 := Option.some.inj (hv128_0.symm.trans hx128_0)
  rw [hv128_0] at ge128_0
  have HL128_0 := am (show Kd.R (Kd.int .i64) 3 _ _ _ _ (rd_L11 x4_2 ((rd_T43 ((rd_T41 l0_2 x26_1).f1) x34_2).f0)) from ge128_0)
  clear hv128_0 ge128_0
  have HX128_0 := am hx128_0
  clear hcc128 hce128
  have HR128_0 := am hi128_0
  have HC128_0 := am hl128_0
  clear hi128_0 hl128_0
  replace p128 := eq_true p128
  replace q128 := eq_true q128
  obtain ⟨go34, co34, eo34, gb34, gl34, cl34, HG34⟩ := Kd.S_form HO_4.1 (by have h_ : (((rd_T43 ((rd_T41 l0_2 x26_1).f1) x34_2).f0) : Int) < ((x4_2.length : Int) : Int) := dq; have h2_ : 0 ≤ (((rd_T43 ((rd_T41 l0_2 x26_1).f1) x34_2).f0) : Int) := (dq); omega)
  (first | cases eo34 | (injection eo34 with ea_ en_ ec_; (first | subst ea_ | (injection ea_ with ea_; subst ea_)); subst ec_; clear en_))
  have GB34 := am gb34
  have GG34 := am HG34
  clear gb34 gl34 HG34
  (first | simp only [add_plain] at hx128_0 | skip)
  obtain ⟨oki34, ce34, hcl34, hM34, hcc34, _, _, hH34⟩ := Kd.S_elem HO_4.1 [] (((rd_T43 ((rd_T41 l0_2 x26_1).f1) x34_2).f0) : Int) (dq) (by have h_ : (((rd_T43 ((rd_T41 l0_2 x26_1).f1) x34_2).f0) : Int) < ((x4_2.length : Int) : Int) := dq; first | exact h_ | (have e_ := (Kd.S_reads' HO_4.1).1; omega) | simpa using h_)
  obtain ⟨ve34_0, rfl, ge34_0⟩ := hM34
  have hv34 := hcc34 0 _ rfl
  have hX34 := HX128_0.1
  (try simp only [add_plain] at hX34)
  (try simp only [Nat.add_zero] at hv34)
  (try rw [show ((Kd.slice 3 (Kd.int .i64))).sz = 1 from rfl, Nat.mul_one] at hv34)
  replace hv34 := Option.some.inj (hv34.symm.trans hX34)
  subst hv34
  clear hX34 hcc34 hcl34
  have UU34 := am (show Kd.R (Kd.int .i64) 3 _ w.heap.size oki34 (.slice A128_0 (rd_L11 x4_2 ((rd_T43 ((rd_T41 l0_2 x26_1).f1) x34_2).f0)).length c128_0) (rd_L11 x4_2 ((rd_T43 ((rd_T41 l0_2 x26_1).f1) x34_2).f0)) from ge34_0)
  have HH34 := am hH34
  have HN34 := am (Kd.S_reads' HO_4.1).1
  clear hH34 ge34_0
  refine start_ (n := 15) (S := fun w' => w'.cell? ⟨gb127, 0, none⟩ = some (.int .i64 ((rd_T43 ((rd_T41 l0_2 x26_1).f1) x34_2).f0)) ∧ w'.cell? ⟨gb127, 1, none⟩ = some (.int .i64 ((rd_T43 ((rd_T41 l0_2 x26_1).f1) x34_2).f1)) ∧ w'.cell? ⟨go34, (((rd_T43 ((rd_T41 l0_2 x26_1).f1) x34_2).f0)).toNat, none⟩ = some (.slice A128_0 (rd_L11 x4_2 ((rd_T43 ((rd_T41 l0_2 x26_1).f1) x34_2).f0)).length c128_0)) (ds := [14]) #[false, false, false, false, false, false, false, false, false, false, false, false, false, false, false] (by kernel_rfl) rfl rfl ⟨(blk_cell BK127.1 0).trans rfl, (blk_cell BK127.1 1).trans rfl, hx128_0⟩ (fun hHeld => ?_); refine with_tabW netclass_Flow.tab11 netclass_Flow.bits11 (fun HT_ HW_ => ?_)
  generalize w31.drew = w32 at HO_4 BK119 BK125 BK127 HB GG34 HH34 HL128_0 HR128_0 HX128_0 UU34 hx128_0 hHeld ⊢
  refine pu HT_.1 0 38 ?_
  refine pu HT_.1 1 39 ?_
  refine pu HT_.1 3 41 ?_
  refine pu HT_.1 4 42 ?_
  refine pu HT_.1 8 46 ?_
  refine pu HT_.1 9 47 ?_
  refine pu HT_.1 10 48 ?_
  refine tk HT_.1 HW_.1 hHeld 2 40 ?_
  refine tk HT_.1 HW_.1 hHeld 5 43 ?_
  refine pu HT_.1 6 44 ?_
  refine tk HT_.1 HW_.1 hHeld 7 45 ?_
  refine on HT_.1 11 (some 49) fun K hK => ?_
  refine value_ (w1 := ?_) (v := ?_) (by rfl) rfl ?_ ?_
  rotate_left 2
  ·go_simp
   constructor
   ·rfl
   ·rfl
  refine hK.out _ _ ⟨(blk_cell (blk_alloc BK127.1 _) 0).trans rfl, (blk_cell (blk_alloc BK127.1 _) 1).trans rfl, (World.cell?_alloc_lt _ _ _ (World.block_lt_of_cell? _ _ (hHeld.2.2))).trans (hHeld.2.2)⟩ (fun hHeld => ?_)
  clear hK K
  refine nm_ ?_
  refine on HT_.1 12 (some 50) fun K hK => ?_
  refine Kd.R_append_step (Kd.int .i64) (w0 := w) w.heap.size (by rfl) (.tmp 45) (.tmp 49) 37 3 (.int .i64 0) 8 rfl Try.underlying37 info3 rfl (by decide) (by omega) (.slice A128_0 (rd_L11 x4_2 ((rd_T43 ((rd_T41 l0_2 x26_1).f1) x34_2).f0)).length c128_0) (rd_L11 x4_2 ((rd_T43 ((rd_T41 l0_2 x26_1).f1) x34_2).f0)) (wrap64 ((l0_1.length : Int) + x26_1)) [.int .i64 (wrap64 ((l0_1.length : Int) + x26_1))] (fun k_ => oki34 k_ ∨ ((fun _ => True)) k_ ∧ w32.heap.size ≤ k_) (fun _ => False) rfl rfl ?aP (fun _ hk => hk.elim) ?aF ?aO ?aB ?aS ?aL ?_
  (case aP => exact rfl)
  (case aB => exact pbg)
  (case aF => exact (fun k_ hk => .inr ⟨trivial, hk⟩))
  (case aO => exact (by (with_reducible repeat (first | apply Kd.R_alloc | apply Kd.R_drewN | apply Kd.R_drew)); exact Kd.R_mono UU34.1 (fun _ hk => .inl hk)))
  (case aS => exact (below_size pbg))
  (case aL => have := LMc25.1; omega)
  intro v130 w35 ho hb hg hat
  (first | have HS2_ := cell_grown hg (hHeld.2.2) (by first | (rw [add_block]; exact (fun e_ => ((HL128_0.1.1 _ e_.symm).2) rfl)) | (show some (Addr.add _ _).block ≠ _; rw [add_block]; exact (fun e_ => ((HL128_0.1.1 _ e_.symm).2) rfl)) | exact (fun e_ => ((HL128_0.1.1 _ e_.symm).2) rfl)) | have HS2_ := cell_grown hg (cell_unalloc (hHeld.2.2) (by first | (rw [add_block]; exact Kd.S_lt HO_4.1 _ rfl) | (show (Addr.add _ _).block < _; rw [add_block]; exact Kd.S_lt HO_4.1 _ rfl) | exact Kd.S_lt HO_4.1 _ rfl)) (by first | (rw [add_block]; exact (fun e_ => ((HL128_0.1.1 _ e_.symm).2) rfl)) | (show some (Addr.add _ _).block ≠ _; rw [add_block]; exact (fun e_ => ((HL128_0.1.1 _ e_.symm).2) rfl)) | exact (fun e_ => ((HL128_0.1.1 _ e_.symm).2) rfl)))
  rw [← Ny129.1] at ho
  have n0_ := am (blk_grown (g := gb119) (o := .cells #[.string a0_0, .slice A0_1 l0_1.length c0_1, .slice (some ad124) l0_2.length c0_2] 25 (0, 0)) (by exact pbk BK119.1) hg (Kd.R_ne HL128_0.1 BK119.1 (by decide)))
  have n1_ := am (blk_grown (g := gb125) (o := .cells #[.string ((rd_T41 l0_2 x26_1).f0), .slice (some ad126) ((rd_T41 l0_2 x26_1).f1).length c124_1, .slice A124_2 ((rd_T41 l0_2 x26_1).f2).length c124_2, .slice A124_3 ((rd_T41 l0_2 x26_1).f3).length c124_3, .int .i64 ((rd_T41 l0_2 x26_1).f4)] 41 (0, 0)) (by exact pbk BK125.1) hg (Kd.R_ne HL128_0.1 BK125.1 (by decide)))
  have n2_ := am (blk_grown (g := gb127) (o := .cells #[.int .i64 ((rd_T43 ((rd_T41 l0_2 x26_1).f1) x34_2).f0), .int .i64 ((rd_T43 ((rd_T41 l0_2 x26_1).f1) x34_2).f1)] 43 (0, 0)) (by exact pbk BK127.1) hg (Kd.R_ne HL128_0.1 BK127.1 (by decide)))
  have n3_ := am hb
  have n4_ := am (Kd.H_grown (Kd.H_widen (by repeat (first | exact HH34.1 | refine Kd.H_alloc ?_ _ | refine Kd.H_drewN ?_ _ | refine Kd.H_drew ?_))) hg (fun k_ e_ => .inl (UU34.1.1 k_ e_)))
  have n5_ := am ho
  clear BK119 BK125 BK127 HB HH34 HO_4 UU34 HL128_0
  have BK119 := n0_
  have BK125 := n1_
  have BK127 := n2_
  have HB := n3_
  have HH34 := n4_
  have HO131 := n5_
  clear n0_ n1_ n2_ n3_ n4_ n5_ ho hb hg hat
  have p26 : 0 ≤ (((rd_T43 ((rd_T41 l0_2 x26_1).f1) x34_2).f0) : Int) := dq
  have q26 : (((rd_T43 ((rd_T41 l0_2 x26_1).f1) x34_2).f0) : Int) < ((x4_2.length : Int) : Int) := dq
  replace p26 := eq_true p26
  replace q26 := eq_true q26
  obtain ⟨Ao38, co38, eo38⟩ := Kd.R_slice HO131.1
  (first | subst eo38 | (injection eo38 with f1_ f2_ f3_; have f4_ := f1_.symm; have f5_ := f3_.symm; clear f1_ f2_ f3_; subst f4_; subst f5_))
  obtain ⟨_, _, hraw36, _, _, hcc36, _⟩ := Kd.H_raw HH34.1 (dq) (by have h_ : (((rd_T43 ((rd_T41 l0_2 x26_1).f1) x34_2).f0) : Int) < ((x4_2.length : Int) : Int) := dq; first | exact h_ | (have e_ := (HN34.1); omega) | simpa using h_)
  obtain ⟨_, hfr36⟩ := Kd.H_at HH34.1 (dq) (by have h_ : (((rd_T43 ((rd_T41 l0_2 x26_1).f1) x34_2).f0) : Int) < ((x4_2.length : Int) : Int) := dq; first | exact h_ | (have e_ := (HN34.1); omega) | simpa using h_)
  have hx36_0 := hcc36 0 _ rfl
  have hf36_0 := hfr36 0
  (try simp only [Nat.add_zero] at hx36_0 hf36_0)
  (try rw [show ((Kd.slice 3 (Kd.int .i64))).sz = 1 from rfl, Nat.mul_one] at hx36_0)
  (try rw [show ((Kd.slice 3 (Kd.int .i64))).sz = 1 from rfl, Nat.mul_one] at hf36_0)
  have HP36 := Kd.S_seg0 HH34.1 (dq) (by have h_ : (((rd_T43 ((rd_T41 l0_2 x26_1).f1) x34_2).f0) : Int) < ((x4_2.length : Int) : Int) := dq; first | exact h_ | (have e_ := (HN34.1); omega) | simpa using h_) (seg := [.slice Ao38 y129.length co38]) (j := 0) (show 1 ≤ 1 from by decide) (x' := y129) (Kd.M_row HO131.1) (fun _ hk => hk)
  (try simp only [show ((Kd.slice 3 (Kd.int .i64))).sz = 1 from rfl, Nat.mul_one, Nat.add_zero] at HP36)
  clear hcc36 hfr36
  have HNB119_go34 := am (show gb119 ≠ go34 from by have h_ := Kd.R_ne hraw36 BK119.1 (by decide); intro e_; exact h_ (by rw [e_]; rfl))
  have HNB125_go34 := am (show gb125 ≠ go34 from by have h_ := Kd.R_ne hraw36 BK125.1 (by decide); intro e_; exact h_ (by rw [e_]; rfl))
  have HNB127_go34 := am (show gb127 ≠ go34 from by have h_ := Kd.R_ne hraw36 BK127.1 (by decide); intro e_; exact h_ (by rw [e_]; rfl))
  have HS36 := HP36.1
  rw [← Ny132.1] at HS36
  have HQ36 := am HS36
  obtain ⟨_, hgg36⟩ := Kd.R_typed hraw36 go34 rfl
  have GG36_ := am hgg36
  clear HP36 HS36 hgg36
  refine hK.out _ _ ⟨(blk_cell BK127.1 0).trans rfl, (blk_cell BK127.1 1).trans rfl, HS2_⟩ (fun hHeld => ?_)
  clear hK K
  refine nm_ ?_
  refine pu HT_.1 13 51 ?_
  refine la HT_.1 14 none fun K hK => ?_
  refine skip_ (w1 := ?_) (by rfl) rfl ?_ ?_
  rotate_left
  ·go_simp
   rfl
  refine hK.out _ _ ?_
  clear hK K
  refine done_ (done_of HT_.1 (by kernel_rfl)) ?_
  try go_wp2
  go_roundg k2
  case measure => have := HK1.1; have := HK2.1; omega
  case rel => exact ⟨(y132), (wrap64 (x34_2 + 1)), prs, H', ⟨by have := HK1.1; have := HK2.1; omega⟩, ⟨pks HQ36.1⟩, ⟨by (with_reducible repeat (first | refine blk_drewN ?_ _ | refine blk_drew ?_ | refine blk_alloc ?_ _)); refine blk_far ?_ HNB119_go34.1 _; exact pbk BK119.1⟩, ⟨by (with_reducible repeat (first | refine blk_drewN ?_ _ | refine blk_drew ?_ | refine blk_alloc ?_ _)); refine blk_far ?_ HNB125_go34.1 _; exact pbk BK125.1⟩, ⟨pbg⟩⟩
 rw [if_neg c20] at H
 have c20b0 : decide (x34_2 < (((rd_T41 l0_2 x26_1).f1).length : Int)) = false := decide_eq_false c20
 clear c20
 have H' := am H
 clear H
 have hnb39 := NB125_119.1
 have hnc39 := NB119_125.1
 have z40 := cf5 BK125.1
 go_wp2
 go_loopg [56] k2 (fun kq v56 w' => ∃ (x4_3 : List (List Int)) (x56_3 : Int), v56 = .int .i64 x56_3 ∧ Aside0 (netclass_Flow.l2 kq (l0_1.length : Int) x4_3 x26_1 l0_2 (l0_2.length : Int) x26_1 ((rd_T41 l0_2 x26_1).f2) (((rd_T41 l0_2 x26_1).f2).length : Int) x56_3 = some r) ∧ Aside0 (kq ≤ k2) ∧ Aside0 (Kd.S (Kd.slice 3 (Kd.int .i64)) 37 w' w.heap.size (fun _ => True) v122 x4_3) ∧ Aside0 (w'.heap[gb119]? = some (.cells #[.string a0_0, (.slice A0_1 l0_1.length c0_1), (.slice (some ad124) l0_2.length c0_2)] 25 (0, 0))) ∧ Aside0 (w'.heap[gb125]? = some (.cells #[.string ((rd_T41 l0_2 x26_1).f0), (.slice A124_1 ((rd_T41 l0_2 x26_1).f1).length c124_1), (.slice A124_2 ((rd_T41 l0_2 x26_1).f2).length c124_2), (.slice A124_3 ((rd_T41 l0_2 x26_1).f3).length c124_3), .int .i64 ((rd_T41 l0_2 x26_1).f4)] 41 (0, 0))) ∧ Aside0 (Below w.heap.size w w'))
 case atStart => exact ⟨(x4_2), (0), prs, H', ⟨Nat.le_refl _⟩, ⟨pks HO_4.1⟩, ⟨pbk BK119.1⟩, ⟨pbk BK125.1⟩, ⟨pbg⟩⟩
 clear H'
 try clear c3 c5 c5b0 c5b1 c6 c6b0 c6b1 c14 c14b0 c15 c15b0 c16 c16b0 c20 c20b0 c21 c21b0 c22 c22b0 c23 c23b0 c24 c24b0 c25 p26 q26 z10 z13 z19 z30 z40 z8 hx124_0 hx124_1 hx124_2 hx124_3 hx124_4 hx126_0 hx126_1 hx128_0 hx36_0 p124 p126 p128 q124 q126 q128
 obtain ⟨x4_3, x56_3, rfl, HA, HK3, HO_4, BK119, BK125, HB⟩ := hrel
 obtain _ | k3 := gk
 ·exact absurd HA.1 (by simp [netclass_Flow.l2])
 have H := HA.1
 clear HA
 simp only [netclass_Flow.l2] at H
 by_cases c41 : x56_3 < (((rd_T41 l0_2 x26_1).f2).length : Int)
 rotate_left
 ·rw [if_neg c41] at H
  have c41b0 : decide (x56_3 < (((rd_T41 l0_2 x26_1).f2).length : Int)) = false := decide_eq_false c41
  clear c41
  have H' := am H
  clear H
  go_wp2
  go_roundg k3
  case measure => have := HK1.1; have := HK2.1; have := HK3.1; omega
  case rel => exact ⟨(x4_3), (wrap64 (x26_1 + 1)), prs, H', ⟨by have := HK1.1; have := HK2.1; have := HK3.1; omega⟩, ⟨pks HO_4.1⟩, ⟨pbk BK119.1⟩, ⟨pbg⟩⟩
 rw [if_pos c41] at H
 have c41b0 : decide (x56_3 < (((rd_T41 l0_2 x26_1).f2).length : Int)) = true := decide_eq_true c41
 clear c41
 replace H := ifp H
 obtain ⟨c42, H⟩ := H
 have c42b0 := decide_eq_true c42
 clear c42
 replace H := ifp H
 obtain ⟨c43, H⟩ := H
 have c43b0 := decide_eq_true c43
 clear c43
 obtain ⟨ji44, hji44⟩ : ∃ j_ : Int, (wrap64 ((l0_1.length : Int) + x26_1)) = j_ := ⟨_, rfl⟩
 replace H : (if 0 ≤ (ji44) then (if (ji44) < (x4_3.length : Int) then (if (rd_L11 x4_3 (ji44)).length < 17592186044416 then (netclass_Flow.l2 k3 (l0_1.length : Int) (x4_3.set ((ji44) : Int).toNat ((rd_L11 x4_3 (ji44)) ++ [(rd_T43 ((rd_T41 l0_2 x26_1).f2) x56_3).f0])) x26_1 l0_2 (l0_2.length : Int) x26_1 ((rd_T41 l0_2 x26_1).f2) (((rd_T41 l0_2 x26_1).f2).length : Int) (wrap64 (x56_3 + 1))) else (none)) else (none)) else (none)) = some r := by first | (rw [hji44] at H; exact H) | (simp only [hji44] at H ⊢; exact H)
 have hji44w : (IntKind.i64.wrap ((l0_1.length : Int) + x26_1)) = ji44 := (i64_w _).trans hji44
 replace H := ifp H
 obtain ⟨c45, H⟩ := H
 have c45b0 := decide_eq_true c45
 clear c45
 replace H := ifp H
 obtain ⟨c46, H⟩ := H
 have c46b0 := decide_eq_true c46
 clear c46
 replace H := ifp H
 obtain ⟨c47, H⟩ := H
 have LMc47 := am c47
 clear c47
 obtain ⟨y136, hy136⟩ : ∃ y_ : List Int, y_ = ((rd_L11 x4_3 (ji44)) ++ [(rd_T43 ((rd_T41 l0_2 x26_1).f2) x56_3).f0]) := ⟨_, rfl⟩
 replace H : (netclass_Flow.l2 k3 (l0_1.length : Int) (x4_3.set ((ji44) : Int).toNat y136) x26_1 l0_2 (l0_2.length : Int) x26_1 ((rd_T41 l0_2 x26_1).f2) (((rd_T41 l0_2 x26_1).f2).length : Int) (wrap64 (x56_3 + 1))) = some r := hrp hy136 H
 have Ny136 := am hy136
 clear hy136
 obtain ⟨y139, hy139⟩ : ∃ y_ : List (List Int), y_ = (x4_3.set ((ji44) : Int).toNat y136) := ⟨_, rfl⟩
 replace H : (netclass_Flow.l2 k3 (l0_1.length : Int) y139 x26_1 l0_2 (l0_2.length : Int) x26_1 ((rd_T41 l0_2 x26_1).f2) (((rd_T41 l0_2 x26_1).f2).length : Int) (wrap64 (x56_3 + 1))) = some r := hrp hy139 H
 have Ny139 := am hy139
 clear hy139
 have H' := am H
 clear H
 obtain ⟨p133, q133, ad133, e133, hx133_0, hx133_1⟩ := bT43 HR124_2.1 HB.1 x56_3
 cases e133
 try go_wp2_with (first | ((with_reducible refine gate_dst (N := 10) rfl ?_); refine box_ev (N := 10) (cs := #[.int .i64 0, .int .i64 0]) (t := 43) ?_; intro gb134 hg w49 hbox hb; have BK134 := am hbox; have GW134 := gwb hg; have GE134 := GW134; have NB119_134 := nlt hg BK119; have NB134_119 := ngt hg BK119; have NB125_134 := nlt hg BK125; have NB134_125 := ngt hg BK125; replace HO_4 := sbw HO_4 hb; replace BK119 := bbh BK119 hb; replace BK125 := bbh BK125 hb; replace HB := bst hb; clear hb hbox hg; have hnb50 := NB134_119.1; have hnc50 := NB119_134.1; have hnb51 := NB134_125.1; have hnc51 := NB125_134.1; have z52 := cf2 BK134.1))
 have n0_ : Aside0 (Kd.S (Kd.slice 3 (Kd.int .i64)) 37 ((w49.setCell ⟨gb134, 0, none⟩ (.int .i64 ((rd_T43 ((rd_T41 l0_2 x26_1).f2) x56_3).f0))).setCell ⟨gb134, 1, none⟩ (.int .i64 ((rd_T43 ((rd_T41 l0_2 x26_1).f2) x56_3).f1))) w.heap.size (fun _ => True) v122 x4_3) := ⟨by (with_reducible repeat (first | apply Kd.S_alloc | apply Kd.S_drewN | apply Kd.S_drew)); exact Kd.S_mono (Kd.S_far (p := ⟨gb134, 1, none⟩) (Kd.S_far (p := ⟨gb134, 0, none⟩) (Kd.S_types HO_4.1 BK134.1 (by decide)) (fun _ hk => hk.2) (.int .i64 ((rd_T43 ((rd_T41 l0_2 x26_1).f2) x56_3).f0))) (fun _ hk => hk.2) (.int .i64 ((rd_T43 ((rd_T41 l0_2 x26_1).f2) x56_3).f1))) (fun _ hk => trivial)⟩
 have n1_ : Aside0 (((w49.setCell ⟨gb134, 0, none⟩ (.int .i64 ((rd_T43 ((rd_T41 l0_2 x26_1).f2) x56_3).f0))).setCell ⟨gb134, 1, none⟩ (.int .i64 ((rd_T43 ((rd_T41 l0_2 x26_1).f2) x56_3).f1))).heap[gb119]? = some (.cells #[.string a0_0, .slice A0_1 l0_1.length c0_1, .slice (some ad124) l0_2.length c0_2] 25 (0, 0))) := ⟨by (with_reducible repeat (first | refine blk_drewN ?_ _ | refine blk_drew ?_ | refine blk_alloc ?_ _)); refine bf2 ?_ NB119_134.1; exact pbk BK119.1⟩
 have n2_ : Aside0 (((w49.setCell ⟨gb134, 0, none⟩ (.int .i64 ((rd_T43 ((rd_T41 l0_2 x26_1).f2) x56_3).f0))).setCell ⟨gb134, 1, none⟩ (.int .i64 ((rd_T43 ((rd_T41 l0_2 x26_1).f2) x56_3).f1))).heap[gb125]? = some (.cells #[.string ((rd_T41 l0_2 x26_1).f0), .slice A124_1 ((rd_T41 l0_2 x26_1).f1).length c124_1, .slice (some ad133) ((rd_T41 l0_2 x26_1).f2).length c124_2, .slice A124_3 ((rd_T41 l0_2 x26_1).f3).length c124_3, .int .i64 ((rd_T41 l0_2 x26_1).f4)] 41 (0, 0))) := ⟨by (with_reducible repeat (first | refine blk_drewN ?_ _ | refine blk_drew ?_ | refine blk_alloc ?_ _)); refine bf2 ?_ NB125_134.1; exact pbk BK125.1⟩
 have n3_ : Aside0 (((w49.setCell ⟨gb134, 0, none⟩ (.int .i64 ((rd_T43 ((rd_T41 l0_2 x26_1).f2) x56_3).f0))).setCell ⟨gb134, 1, none⟩ (.int .i64 ((rd_T43 ((rd_T41 l0_2 x26_1).f2) x56_3).f1))).heap[gb134]? = some (.cells #[.int .i64 ((rd_T43 ((rd_T41 l0_2 x26_1).f2) x56_3).f0), .int .i64 ((rd_T43 ((rd_T41 l0_2 x26_1).f2) x56_3).f1)] 43 (0, 0))) := ⟨by (with_reducible repeat (first | refine blk_drewN ?_ _ | refine blk_drew ?_ | refine blk_alloc ?_ _)); exact bp2 (pbk BK134.1)⟩
 have n4_ : Aside0 (Below w.heap.size w ((w49.setCell ⟨gb134, 0, none⟩ (.int .i64 ((rd_T43 ((rd_T41 l0_2 x26_1).f2) x56_3).f0))).setCell ⟨gb134, 1, none⟩ (.int .i64 ((rd_T43 ((rd_T41 l0_2 x26_1).f2) x56_3).f1)))) := ⟨pbg⟩
 (try clear HO_4)
 (try clear BK119)
 (try clear BK125)
 (try clear BK134)
 (try clear HB)
 generalize ((w49.setCell ⟨gb134, 0, none⟩ (.int .i64 ((rd_T43 ((rd_T41 l0_2 x26_1).f2) x56_3).f0))).setCell ⟨gb134, 1, none⟩ (.int .i64 ((rd_T43 ((rd_T41 l0_2 x26_1).f2) x56_3).f1))) = w53 at n0_ n1_ n2_ n3_ n4_ ⊢
 have HO_4 := n0_
 have BK119 := n1_
 have BK125 := n2_
 have BK134 := n3_
 have HB := n4_
 clear n0_ n1_ n2_ n3_ n4_
 replace HO_4 := am (Kd.S_drew HO_4.1)
 replace BK119 := am (blk_drew BK119.1)
 replace BK125 := am (blk_drew BK125.1)
 replace BK134 := am (blk_drew BK134.1)
 replace HB := am (below_drew1 HB.1)
 obtain ⟨Ao55, co55, eo55⟩ := Kd.S_slice HO_4.1
 (first | subst eo55 | (injection eo55 with f1_ f2_ f3_; have f4_ := f1_.symm; have f5_ := f3_.symm; clear f1_ f2_ f3_; subst f4_; subst f5_))
 have p135 : 0 ≤ ((ji44) : Int) := dq
 have q135 : (ji44) < (x4_3.length : Int) := dq
 obtain ⟨ad135, A135_0, c135_0, e135, hx135_0, hl135_0, hi135_0⟩ := at_L11 (Kd.S_reads' HO_4.1).2.2 (ji44) p135 q135
 cases e135
 obtain ⟨ce135, hce135, hMe135, hcc135⟩ := Kd.S_get HO_4.1 [] (ji44) p135 (by first | exact q135 | exact dq | (have e_ := (Kd.S_reads' HO_4.1).1; omega))
 obtain ⟨ve135_0, rfl, ge135_0⟩ := hMe135
 have hv135_0 := hcc135 0 _ rfl
 rw [Nat.add_zero, show ((Kd.slice 3 (Kd.int .i64))).sz = 1 from rfl, Nat.mul_one] at hv135_0
 replace hv135_0 := Option.some.inj (hv135_0.symm.trans hx135_0)
 rw [hv135_0] at ge135_0
 have HL135_0 := am (show Kd.R (Kd.int .i64) 3 _ _ _ _ (rd_L11 x4_3 (ji44)) from ge135_0)
 clear hv135_0 ge135_0
 have HX135_0 := am hx135_0
 clear hcc135 hce135
 have HR135_0 := am hi135_0
 have HC135_0 := am hl135_0
 clear hi135_0 hl135_0
 replace p135 := eq_true p135
 replace q135 := eq_true q135
 obtain ⟨go56, co56, eo56, gb56, gl56, cl56, HG56⟩ := Kd.S_form HO_4.1 (by have h_ : ((ji44) : Int) < ((x4_3.length : Int) : Int) := dq; have h2_ : 0 ≤ ((ji44) : Int) := (dq); omega)
 (first | cases eo56 | (injection eo56 with ea_ en_ ec_; (first | subst ea_ | (injection ea_ with ea_; subst ea_)); subst ec_; clear en_))
 have GB56 := am gb56
 have GG56 := am HG56
 clear gb56 gl56 HG56
 (first | simp only [add_plain] at hx135_0 | skip)
 obtain ⟨oki56, ce56, hcl56, hM56, hcc56, _, _, hH56⟩ := Kd.S_elem HO_4.1 [] ((ji44) : Int) (dq) (by have h_ : ((ji44) : Int) < ((x4_3.length : Int) : Int) := dq; first | exact h_ | (have e_ := (Kd.S_reads' HO_4.1).1; omega) | simpa using h_)
 obtain ⟨ve56_0, rfl, ge56_0⟩ := hM56
 have hv56 := hcc56 0 _ rfl
 have hX56 := HX135_0.1
 (try simp only [add_plain] at hX56)
 (try simp only [Nat.add_zero] at hv56)
 (try rw [show ((Kd.slice 3 (Kd.int .i64))).sz = 1 from rfl, Nat.mul_one] at hv56)
 replace hv56 := Option.some.inj (hv56.symm.trans hX56)
 subst hv56
 clear hX56 hcc56 hcl56
 have UU56 := am (show Kd.R (Kd.int .i64) 3 _ w.heap.size oki56 (.slice A135_0 (rd_L11 x4_3 (ji44)).length c135_0) (rd_L11 x4_3 (ji44)) from ge56_0)
 have HH56 := am hH56
 have HN56 := am (Kd.S_reads' HO_4.1).1
 clear hH56 ge56_0
 refine start_ (n := 16) (S := fun w' => w'.cell? ⟨gb134, 0, none⟩ = some (.int .i64 ((rd_T43 ((rd_T41 l0_2 x26_1).f2) x56_3).f0)) ∧ w'.cell? ⟨gb134, 1, none⟩ = some (.int .i64 ((rd_T43 ((rd_T41 l0_2 x26_1).f2) x56_3).f1)) ∧ w'.cell? ⟨go56, ((ji44)).toNat, none⟩ = some (.slice A135_0 (rd_L11 x4_3 (ji44)).length c135_0)) (ds := [15]) #[false, false, false, false, false, false, false, false, false, false, false, false, false, false, false, false] (by kernel_rfl) rfl rfl ⟨(blk_cell BK134.1 0).trans rfl, (blk_cell BK134.1 1).trans rfl, hx135_0⟩ (fun hHeld => ?_); refine with_tabW netclass_Flow.tab16 netclass_Flow.bits16 (fun HT_ HW_ => ?_)
 generalize w53.drew = w54 at HO_4 BK119 BK125 BK134 HB GG56 HH56 HL135_0 HR135_0 HX135_0 UU56 hx135_0 hHeld ⊢
 refine pu HT_.1 0 60 ?_
 refine pu HT_.1 1 61 ?_
 refine pu HT_.1 2 62 ?_
 refine pu HT_.1 3 63 ?_
 refine pu HT_.1 4 64 ?_
 refine pu HT_.1 5 65 ?_
 refine pu HT_.1 6 66 ?_
 refine pu HT_.1 7 67 ?_
 refine pu HT_.1 8 68 ?_
 refine pu HT_.1 10 70 ?_
 refine tk HT_.1 HW_.1 hHeld 9 69 ?_
 refine tk HT_.1 HW_.1 hHeld 11 71 ?_
 refine on HT_.1 12 (some 72) fun K hK => ?_
 refine value_ (w1 := ?_) (v := ?_) (by rfl) rfl ?_ ?_
 rotate_left 2
 ·go_simp
  constructor
  ·rfl
  ·rfl
 refine hK.out _ _ ⟨(blk_cell (blk_alloc BK134.1 _) 0).trans rfl, (blk_cell (blk_alloc BK134.1 _) 1).trans rfl, (World.cell?_alloc_lt _ _ _ (World.block_lt_of_cell? _ _ (hHeld.2.2))).trans (hHeld.2.2)⟩ (fun hHeld => ?_)
 clear hK K
 refine nm_ ?_
 refine on HT_.1 13 (some 73) fun K hK => ?_
 refine Kd.R_append_step (Kd.int .i64) (w0 := w) w.heap.size (by rfl) (.tmp 69) (.tmp 72) 37 3 (.int .i64 0) 8 rfl Try.underlying37 info3 rfl (by decide) (by omega) (.slice A135_0 (rd_L11 x4_3 (ji44)).length c135_0) (rd_L11 x4_3 (ji44)) ((rd_T43 ((rd_T41 l0_2 x26_1).f2) x56_3).f0) [.int .i64 ((rd_T43 ((rd_T41 l0_2 x26_1).f2) x56_3).f0)] (fun k_ => oki56 k_ ∨ ((fun _ => True)) k_ ∧ w54.heap.size ≤ k_) (fun _ => False) rfl rfl ?aP (fun _ hk => hk.elim) ?aF ?aO ?aB ?aS ?aL ?_
 (case aP => exact rfl)
 (case aB => exact pbg)
 (case aF => exact (fun k_ hk => .inr ⟨trivial, hk⟩))
 (case aO => exact (by (with_reducible repeat (first | apply Kd.R_alloc | apply Kd.R_drewN | apply Kd.R_drew)); exact Kd.R_mono UU56.1 (fun _ hk => .inl hk)))
 (case aS => exact (below_size pbg))
 (case aL => have := LMc47.1; omega)
 intro v137 w57 ho hb hg hat
 (first | have HS2_ := cell_grown hg (hHeld.2.2) (by first | (rw [add_block]; exact (fun e_ => ((HL135_0.1.1 _ e_.symm).2) rfl)) | (show some (Addr.add _ _).block ≠ _; rw [add_block]; exact (fun e_ => ((HL135_0.1.1 _ e_.symm).2) rfl)) | exact (fun e_ => ((HL135_0.1.1 _ e_.symm).2) rfl)) | have HS2_ := cell_grown hg (cell_unalloc (hHeld.2.2) (by first | (rw [add_block]; exact Kd.S_lt HO_4.1 _ rfl) | (show (Addr.add _ _).block < _; rw [add_block]; exact Kd.S_lt HO_4.1 _ rfl) | exact Kd.S_lt HO_4.1 _ rfl)) (by first | (rw [add_block]; exact (fun e_ => ((HL135_0.1.1 _ e_.symm).2) rfl)) | (show some (Addr.add _ _).block ≠ _; rw [add_block]; exact (fun e_ => ((HL135_0.1.1 _ e_.symm).2) rfl)) | exact (fun e_ => ((HL135_0.1.1 _ e_.symm).2) rfl)))
 rw [← Ny136.1] at ho
 have n0_ := am (blk_grown (g := gb119) (o := .cells #[.string a0_0, .slice A0_1 l0_1.length c0_1, .slice (some ad124) l0_2.length c0_2] 25 (0, 0)) (by exact pbk BK119.1) hg (Kd.R_ne HL135_0.1 BK119.1 (by decide)))
 have n1_ := am (blk_grown (g := gb125) (o := .cells #[.string ((rd_T41 l0_2 x26_1).f0), .slice A124_1 ((rd_T41 l0_2 x26_1).f1).length c124_1, .slice (some ad133) ((rd_T41 l0_2 x26_1).f2).length c124_2, .slice A124_3 ((rd_T41 l0_2 x26_1).f3).length c124_3, .int .i64 ((rd_T41 l0_2 x26_1).f4)] 41 (0, 0)) (by exact pbk BK125.1) hg (Kd.R_ne HL135_0.1 BK125.1 (by decide)))
 have n2_ := am (blk_grown (g := gb134) (o := .cells #[.int .i64 ((rd_T43 ((rd_T41 l0_2 x26_1).f2) x56_3).f0), .int .i64 ((rd_T43 ((rd_T41 l0_2 x26_1).f2) x56_3).f1)] 43 (0, 0)) (by exact pbk BK134.1) hg (Kd.R_ne HL135_0.1 BK134.1 (by decide)))
 have n3_ := am hb
 have n4_ := am (Kd.H_grown (Kd.H_widen (by repeat (first | exact HH56.1 | refine Kd.H_alloc ?_ _ | refine Kd.H_drewN ?_ _ | refine Kd.H_drew ?_))) hg (fun k_ e_ => .inl (UU56.1.1 k_ e_)))
 have n5_ := am ho
 clear BK119 BK125 BK134 HB HH56 HO_4 UU56 HL135_0
 have BK119 := n0_
 have BK125 := n1_
 have BK134 := n2_
 have HB := n3_
 have HH56 := n4_
 have HO138 := n5_
 clear n0_ n1_ n2_ n3_ n4_ n5_ ho hb hg hat
 have p48 : 0 ≤ ((ji44) : Int) := dq
 have q48 : ((ji44) : Int) < ((x4_3.length : Int) : Int) := dq
 replace p48 := eq_true p48
 replace q48 := eq_true q48
 obtain ⟨Ao60, co60, eo60⟩ := Kd.R_slice HO138.1
 (first | subst eo60 | (injection eo60 with f1_ f2_ f3_; have f4_ := f1_.symm; have f5_ := f3_.symm; clear f1_ f2_ f3_; subst f4_; subst f5_))
 obtain ⟨_, _, hraw58, _, _, hcc58, _⟩ := Kd.H_raw HH56.1 (dq) (by have h_ : ((ji44) : Int) < ((x4_3.length : Int) : Int) := dq; first | exact h_ | (have e_ := (HN56.1); omega) | simpa using h_)
 obtain ⟨_, hfr58⟩ := Kd.H_at HH56.1 (dq) (by have h_ : ((ji44) : Int) < ((x4_3.length : Int) : Int) := dq; first | exact h_ | (have e_ := (HN56.1); omega) | simpa using h_)
 have hx58_0 := hcc58 0 _ rfl
 have hf58_0 := hfr58 0
 (try simp only [Nat.add_zero] at hx58_0 hf58_0)
 (try rw [show ((Kd.slice 3 (Kd.int .i64))).sz = 1 from rfl, Nat.mul_one] at hx58_0)
 (try rw [show ((Kd.slice 3 (Kd.int .i64))).sz = 1 from rfl, Nat.mul_one] at hf58_0)
 have HP58 := Kd.S_seg0 HH56.1 (dq) (by have h_ : ((ji44) : Int) < ((x4_3.length : Int) : Int) := dq; first | exact h_ | (have e_ := (HN56.1); omega) | simpa using h_) (seg := [.slice Ao60 y136.length co60]) (j := 0) (show 1 ≤ 1 from by decide) (x' := y136) (Kd.M_row HO138.1) (fun _ hk => hk)
 (try simp only [show ((Kd.slice 3 (Kd.int .i64))).sz = 1 from rfl, Nat.mul_one, Nat.add_zero] at HP58)
 clear hcc58 hfr58
 have HNB119_go56 := am (show gb119 ≠ go56 from by have h_ := Kd.R_ne hraw58 BK119.1 (by decide); intro e_; exact h_ (by rw [e_]; rfl))
 have HNB125_go56 := am (show gb125 ≠ go56 from by have h_ := Kd.R_ne hraw58 BK125.1 (by decide); intro e_; exact h_ (by rw [e_]; rfl))
 have HNB134_go56 := am (show gb134 ≠ go56 from by have h_ := Kd.R_ne hraw58 BK134.1 (by decide); intro e_; exact h_ (by rw [e_]; rfl))
 have HS58 := HP58.1
 rw [← Ny139.1] at HS58
 have HQ58 := am HS58
 obtain ⟨_, hgg58⟩ := Kd.R_typed hraw58 go56 rfl
 have GG58_ := am hgg58
 clear HP58 HS58 hgg58
 refine hK.out _ _ ⟨(blk_cell BK134.1 0).trans rfl, (blk_cell BK134.1 1).trans rfl, HS2_⟩ (fun hHeld => ?_)
 clear hK K
 refine nm_ ?_
 refine pu HT_.1 14 74 ?_
 refine la HT_.1 15 none fun K hK => ?_
 refine skip_ (w1 := ?_) (by rfl) rfl ?_ ?_
 rotate_left
 ·go_simp
  rfl
 refine hK.out _ _ ?_
 clear hK K
 refine done_ (done_of HT_.1 (by kernel_rfl)) ?_
 try go_wp2
 go_roundg k3
 case measure => have := HK1.1; have := HK2.1; have := HK3.1; omega
 case rel => exact ⟨(y139), (wrap64 (x56_3 + 1)), prs, H', ⟨by have := HK1.1; have := HK2.1; have := HK3.1; omega⟩, ⟨pks HQ58.1⟩, ⟨by (with_reducible repeat (first | refine blk_drewN ?_ _ | refine blk_drew ?_ | refine blk_alloc ?_ _)); refine blk_far ?_ HNB119_go56.1 _; exact pbk BK119.1⟩, ⟨by (with_reducible repeat (first | refine blk_drewN ?_ _ | refine blk_drew ?_ | refine blk_alloc ?_ _)); refine blk_far ?_ HNB125_go56.1 _; exact pbk BK125.1⟩, ⟨pbg⟩⟩

/-! ### netclass_Connected: function 14 -/
def netclass_Connected.l0 : Nat → List Bool → Int → Int → Option (Bool)
 | 0, _, _, _ => none
 | k + 1, x12, x13, x14 => if x14 < x13 then (if 0 ≤ x14 then (if x14 < (x12.length : Int) then (if rdOf false x12 x14 = true then (netclass_Connected.l0 k x12 x13 (wrap64 (x14 + 1))) else (some false)) else (none)) else (none)) else (some true)
def netclass_Connected.f (k : Nat) (a0_0 : ByteArray) (l0_1 : List (S46)) (l0_2 : List (S41)) : Option (Bool) := (netclass_valid.f k a0_0 l0_1 l0_2).bind fun t169 => (if t169 = true then ((netclass_Flow.f k a0_0 l0_1 l0_2).bind fun t170 => ((netclass_both.f k t170).bind fun t173 => ((digraph_Reach.f k t173 (([0] : List Int))).bind fun t179 => (netclass_Connected.l0 k t179 (t179.length : Int) 0)))) else (some false))
theorem netclass_Connected.mono_l : ∀ k, M3 netclass_Connected.l0 k
 | 0 => fun _ _ _ r h => by simp [netclass_Connected.l0] at h
 | k + 1 => by
  have ih0 := netclass_Connected.mono_l k
  ·intro y0 y1 y2
   unfold netclass_Connected.l0
   repeat' first | (with_reducible first | apply ih0 | apply digraph_Reach.mono | apply netclass_Flow.mono | apply netclass_both.mono | apply netclass_valid.mono | apply lr | apply ln | apply li | refine lb ?_ fun _ => ?_)
theorem netclass_Connected.mono : ∀ a0 a1 a2 k, LeO (netclass_Connected.f k a0 a1 a2) (netclass_Connected.f (k + 1) a0 a1 a2) := by
 intro a0 a1 a2 k
 have ih0 := netclass_Connected.mono_l k
 unfold netclass_Connected.f
 repeat' first | (with_reducible first | apply ih0 | apply digraph_Reach.mono | apply netclass_Flow.mono | apply netclass_both.mono | apply netclass_valid.mono | apply lr | apply ln | apply li | refine lb ?_ fun _ => ?_)
set_option maxHeartbeats 8000000 in
set_option maxRecDepth 100000 in
theorem netclass_Connected.calls (k : Nat) (a0_0 : ByteArray) (A0_1 : Option Addr) (c0_1 : Nat) (l0_1 : List (S46)) (A0_2 : Option Addr) (c0_2 : Nat) (l0_2 : List (S41)) (r : Bool) (w : World) (hr0_1 : Kd.C k46 w A0_1 l0_1.length l0_1) (hc0_1 : l0_1.length ≤ c0_1) (hr0_2 : Kd.C k41 w A0_2 l0_2.length l0_2) (hc0_2 : l0_2.length ≤ c0_2) (h : netclass_Connected.f k a0_0 l0_1 l0_2 = some r) :
  Calls Try.prog 14 #[.agg #[.string a0_0, .slice A0_1 l0_1.length c0_1, .slice A0_2 l0_2.length c0_2]] w fun e w' => e = .returned (.bool r) ∧ Below w.heap.size w w' := by
 have hu25 := Try.underlying25
 have HR0_1 := am hr0_1
 have HC0_1 := am hc0_1
 clear hr0_1 hc0_1
 have HR0_2 := am hr0_2
 have HC0_2 := am hc0_2
 clear hr0_2 hc0_2
 have HB := am (Below.refl w.heap.size w)
 have H : ((netclass_valid.f k a0_0 l0_1 l0_2).bind fun t169 => (if t169 = true then ((netclass_Flow.f k a0_0 l0_1 l0_2).bind fun t170 => ((netclass_both.f k t170).bind fun t173 => ((digraph_Reach.f k t173 (([0] : List Int))).bind fun t179 => (netclass_Connected.l0 k t179 (t179.length : Int) 0)))) else (some false))) = some r := h
 clear h
 replace H := bnd H
 obtain ⟨t169, A2, H⟩ := H
 (try dsimp only at H)
 by_cases c3 : t169 = true
 rotate_left
 ·replace c3 := Bool.eq_false_iff.mpr c3
  subst c3
  rw [if_neg Bool.false_ne_true] at H
  obtain rfl := Option.some.inj H
  go_enter Try.func14, Try.ntmps14
  go_wp2_with (first | ((with_reducible refine gate_dst (N := 1) rfl ?_); refine box_ev (N := 1) (cs := #[.string a0_0, .slice A0_1 l0_1.length c0_1, .slice A0_2 l0_2.length c0_2]) (t := 25) ?_; intro gb168 hg w25 hbox hb; have BK168 := am hbox; have GW168 := gwl hg; have GE168 := GW168; replace HB := bsl hb; clear hb hbox hg; have z26 := cf3 BK168.1) | ((with_reducible refine gate_callee (f := 37) rfl ?_); refine gC 6 Try.func37 _ (netclass_valid.calls k a0_0 _ _ l0_1 _ _ l0_2 false _ (csb HR0_1 HB) HC0_1.1 (csb HR0_2 HB) HC0_2.1 A2.1) ?_; rintro e w27 ⟨rfl, hb⟩; refine ⟨_, rfl, ?_⟩; replace BK168 := bbh BK168 hb; replace HB := bst hb; (try clear hb)))
  go_ret
  exact ⟨per, pbg⟩
 subst c3
 rw [if_pos rfl] at H
 replace H := bnd H
 obtain ⟨t170, A4, H⟩ := H
 (try dsimp only at H)
 replace H := bnd H
 obtain ⟨t173, A5, H⟩ := H
 (try dsimp only at H)
 obtain ⟨y176, hy176⟩ : ∃ y_ : List Int, y_ = (([0] : List Int)) := ⟨_, rfl⟩
 replace H : ((digraph_Reach.f k t173 y176).bind fun t179 => (netclass_Connected.l0 k t179 (t179.length : Int) 0)) = some r := hrp hy176 H
 have Ny176 := am hy176
 clear hy176
 replace H := bnd H
 obtain ⟨t179, A6, H⟩ := H
 (try dsimp only at H)
 have H' := am H
 clear H
 go_enter Try.func14, Try.ntmps14
 go_wp2_with (first | ((with_reducible refine gate_dst (N := 1) rfl ?_); refine box_ev (N := 1) (cs := #[.string a0_0, .slice A0_1 l0_1.length c0_1, .slice A0_2 l0_2.length c0_2]) (t := 25) ?_; intro gb168 hg w7 hbox hb; have BK168 := am hbox; have GW168 := gwl hg; have GE168 := GW168; replace HB := bsl hb; clear hb hbox hg; have z8 := cf3 BK168.1) | ((with_reducible refine gate_callee (f := 37) rfl ?_); refine gC 6 Try.func37 _ (netclass_valid.calls k a0_0 _ _ l0_1 _ _ l0_2 true _ (csb HR0_1 HB) HC0_1.1 (csb HR0_2 HB) HC0_2.1 A2.1) ?_; rintro e w9 ⟨rfl, hb⟩; refine ⟨_, rfl, ?_⟩; replace BK168 := bbh BK168 hb; replace HB := bst hb; (try clear hb); have z10 := cf3 BK168.1) | ((with_reducible refine gate_callee (f := 12) rfl ?_); refine gC 9 Try.func12 _ (netclass_Flow.calls k a0_0 _ _ l0_1 _ _ l0_2 t170 _ (csb HR0_1 HB) HC0_1.1 (csb HR0_2 HB) HC0_2.1 A4.1) ?_; rintro e w11 ⟨v171, rfl, ho0, hb⟩; refine ⟨_, rfl, ?_⟩; have HO172 := am (Kd.S_lower ho0 (below_size pbg)); replace BK168 := bbh BK168 hb; replace HB := bst hb; (try clear hb); (try clear ho0); obtain ⟨Ao12, co12, eo12⟩ := Kd.S_slice HO172.1; subst eo12) | ((with_reducible refine gate_callee (f := 40) rfl ?_); refine gC 10 Try.func40 _ (netclass_both.calls k _ _ t170 t173 _ (csd ((Kd.S_reads' HO172.1).2.2)) ((Kd.S_reads' HO172.1).2.1) A5.1) ?_; rintro e w13 ⟨v174, rfl, ho0, hb⟩; refine ⟨_, rfl, ?_⟩; have HO175 := am (Kd.S_lower (Kd.S_new' ho0 (Kd.S_lt (pks HO172.1))) (below_size pbg)); replace HO172 := am (Kd.S_elder' (pks HO172.1) (Kd.S_base ho0) hb); replace BK168 := bbh BK168 hb; replace HB := bst hb; (try clear hb); (try clear ho0)) | ((with_reducible refine gate_dst (N := 11) rfl ?_); refine Kd.R_lit (Kd.int .i64) _ 3 ?hg (N := 11) ?hd (xs := ([0] : List Int)) (inner := [.int .i64 0]) (ok := fun _ => True) (okp := fun _ => True) ?hr ?hp (fun _ hk => hk) trivial (Below.refl _ _) (Nat.le_refl _) (by simp) ?_; (case hd => rfl); (case hg => rfl); (case hr => first | (go_simp; done) | (go_simp; rfl)); (case hp => exact (Reps.one (show Kd.M (Kd.int .i64) _ _ _ 0 [.int .i64 0] from rfl) (Reps.none _ _))); intro v177 w14 ho15 hb hg_ hnew_; clear hg_ hnew_; (first | rw [← Ny176.1] at ho15 | (simp only [Int.reduceToNat] at ho15; rw [← Ny176.1] at ho15)); have HO178 := am (Kd.R_lower ho15 (below_size pbg)); replace HO172 := am (Kd.S_elder' (pks HO172.1) (Kd.R_base ho15) hb); replace HO175 := am (Kd.S_elder' (pks HO175.1) (Kd.R_base ho15) hb); replace BK168 := bbh BK168 hb; replace HB := bst hb; clear hb ho15; obtain ⟨Ao16, co16, eo16⟩ := Kd.S_slice HO175.1; subst eo16; obtain ⟨Ao17, co17, eo17⟩ := Kd.R_slice HO178.1; subst eo17) | ((with_reducible refine gate_callee (f := 39) rfl ?_); refine gC 12 Try.func39 _ (digraph_Reach.calls k _ _ t173 _ _ y176 t179 _ (csd ((Kd.S_reads' HO175.1).2.2)) ((Kd.S_reads' HO175.1).2.1) (csd ((Kd.R_reads' HO178.1).2.2)) ((Kd.R_reads' HO178.1).2.1) A6.1) ?_; rintro e w18 ⟨v180, rfl, ho0, hb⟩; refine ⟨_, rfl, ?_⟩; have HO181 := am (Kd.R_lower ho0 (below_size pbg)); replace HO172 := sbw HO172 hb; replace HO175 := sbw HO175 hb; replace HO178 := rbw HO178 hb; replace BK168 := bbh BK168 hb; replace HB := bst hb; (try clear hb); (try clear ho0); obtain ⟨Ao19, co19, eo19⟩ := Kd.R_slice HO181.1; subst eo19))
 go_loopg [14] k (fun kq v14 w' => ∃ (x14_1 : Int), v14 = .int .i64 x14_1 ∧ Aside0 (netclass_Connected.l0 kq t179 (t179.length : Int) x14_1 = some r) ∧ Aside0 (kq ≤ k) ∧ Aside0 (Kd.R Kd.bool 4 w' w.heap.size (fun _ => True) (.slice Ao19 t179.length co19) t179) ∧ Aside0 (w'.heap[gb168]? = some (.cells #[.string a0_0, (.slice A0_1 l0_1.length c0_1), (.slice A0_2 l0_2.length c0_2)] 25 (0, 0))) ∧ Aside0 (Below w.heap.size w w'))
 case atStart => exact ⟨(0), prs, H', ⟨Nat.le_refl _⟩, ⟨pkr HO181.1⟩, ⟨pbk BK168.1⟩, ⟨pbg⟩⟩
 clear H'
 try clear c3 z10 z8
 obtain ⟨x14_1, rfl, HA, HK1, HO_12, BK168, HB⟩ := hrel
 obtain _ | k1 := gk
 ·exact absurd HA.1 (by simp [netclass_Connected.l0])
 have H := HA.1
 clear HA
 simp only [netclass_Connected.l0] at H
 by_cases c20 : x14_1 < (t179.length : Int)
 rotate_left
 ·rw [if_neg c20] at H
  have c20b0 : decide (x14_1 < (t179.length : Int)) = false := decide_eq_false c20
  clear c20
  obtain rfl := Option.some.inj H
  go_wp2
  go_ret
  exact ⟨per, pbg⟩
 rw [if_pos c20] at H
 have c20b0 : decide (x14_1 < (t179.length : Int)) = true := decide_eq_true c20
 clear c20
 replace H := ifp H
 obtain ⟨c21, H⟩ := H
 have c21b0 := decide_eq_true c21
 clear c21
 replace H := ifp H
 obtain ⟨c22, H⟩ := H
 have c22b0 := decide_eq_true c22
 clear c22
 obtain ⟨bq23, hbq23⟩ : ∃ b_ : Bool, b_ = (rdOf false t179 x14_1) := ⟨_, rfl⟩
 replace H : (if bq23 = true then (netclass_Connected.l0 k1 t179 (t179.length : Int) (wrap64 (x14_1 + 1))) else (some false)) = some r := by rw [← hbq23] at H; exact H
 have Nbq23 := am hbq23
 clear hbq23
 by_cases c24 : bq23 = true
 rotate_left
 ·replace c24 := Bool.eq_false_iff.mpr c24
  subst c24
  rw [if_neg Bool.false_ne_true] at H
  obtain rfl := Option.some.inj H
  obtain ⟨p182, q182, ad182, e182, hx182_0⟩ := dbool (Kd.R_reads' HO_12.1).2.2 x14_1
  (try rw [← Nbq23.1] at hx182_0)
  cases e182
  go_wp2
  go_ret
  exact ⟨per, pbg⟩
 subst c24
 rw [if_pos rfl] at H
 have H' := am H
 clear H
 obtain ⟨p182, q182, ad182, e182, hx182_0⟩ := dbool (Kd.R_reads' HO_12.1).2.2 x14_1
 (try rw [← Nbq23.1] at hx182_0)
 cases e182
 go_wp2
 go_roundg k1
 case measure => have := HK1.1; omega
 case rel => exact ⟨(wrap64 (x14_1 + 1)), prs, H', ⟨by have := HK1.1; omega⟩, ⟨pkr HO_12.1⟩, ⟨pbk BK168.1⟩, ⟨pbg⟩⟩

/-! ### net_valid: function 81 -/
def net_valid.f (k : Nat) (a0_0 : ByteArray) (l0_1 : List (S46)) (l0_2 : List (S41)) : Option (Bool) := (net_Check.f k a0_0 l0_1 l0_2).bind fun bt187 => (some (bt187.1 == 0))
theorem net_valid.mono : ∀ a0 a1 a2 k, LeO (net_valid.f k a0 a1 a2) (net_valid.f (k + 1) a0 a1 a2) := by
 intro a0 a1 a2 k
 unfold net_valid.f
 repeat' first | (with_reducible first | apply net_Check.mono | apply lr | apply ln | apply li | refine lb ?_ fun _ => ?_)
set_option maxHeartbeats 8000000 in
set_option maxRecDepth 100000 in
theorem net_valid.calls (k : Nat) (a0_0 : ByteArray) (A0_1 : Option Addr) (c0_1 : Nat) (l0_1 : List (S46)) (A0_2 : Option Addr) (c0_2 : Nat) (l0_2 : List (S41)) (r : Bool) (w : World) (hr0_1 : Kd.C k46 w A0_1 l0_1.length l0_1) (hc0_1 : l0_1.length ≤ c0_1) (hr0_2 : Kd.C k41 w A0_2 l0_2.length l0_2) (hc0_2 : l0_2.length ≤ c0_2) (h : net_valid.f k a0_0 l0_1 l0_2 = some r) :
  Calls Try.prog 81 #[.agg #[.string a0_0, .slice A0_1 l0_1.length c0_1, .slice A0_2 l0_2.length c0_2]] w fun e w' => e = .returned (.bool r) ∧ Below w.heap.size w w' := by
 have hf61_0 : ∀ (x0 x1 : Value) (W : World), (Instr.field 61 (.agg #[x0, x1]) 0).run Try.prog W = .ok x0 W := fun x0 x1 W => by kernel_rfl
 have hu25 := Try.underlying25
 have HR0_1 := am hr0_1
 have HC0_1 := am hc0_1
 clear hr0_1 hc0_1
 have HR0_2 := am hr0_2
 have HC0_2 := am hc0_2
 clear hr0_2 hc0_2
 have HB := am (Below.refl w.heap.size w)
 have H : ((net_Check.f k a0_0 l0_1 l0_2).bind fun bt187 => (some (bt187.1 == 0))) = some r := h
 clear h
 replace H := bnd H
 obtain ⟨⟨t187, t188⟩, A2, H⟩ := H
 (try dsimp only at H)
 obtain rfl := Option.some.inj H
 go_enter Try.func81, Try.ntmps81
 go_wp2_with (first | ((with_reducible refine gate_dst (N := 1) rfl ?_); refine box_ev (N := 1) (cs := #[.string a0_0, .slice A0_1 l0_1.length c0_1, .slice A0_2 l0_2.length c0_2]) (t := 25) ?_; intro gb186 hg w3 hbox hb; have BK186 := am hbox; have GW186 := gwl hg; have GE186 := GW186; replace HB := bsl hb; clear hb hbox hg; have z4 := cf3 BK186.1) | ((with_reducible refine gate_callee (f := 68) rfl ?_); refine gC 4 Try.func68 _ (net_Check.calls k a0_0 _ _ l0_1 _ _ l0_2 t187 t188 _ (csb HR0_1 HB) HC0_1.1 (csb HR0_2 HB) HC0_2.1 A2.1) ?_; rintro e w5 ⟨rfl, hb⟩; refine ⟨_, rfl, ?_⟩; replace BK186 := bbh BK186 hb; replace HB := bst hb; (try clear hb)))
 go_ret
 exact ⟨per, pbg⟩

/-! ### net_Inputs: function 57 -/
def net_Inputs.f (k : Nat) (a0_0 : ByteArray) (l0_1 : List (S46)) (l0_2 : List (S41)) (a1 : Int) : Option (List Int) := (net_valid.f k a0_0 l0_1 l0_2).bind fun t195 => (if t195 = true then (if a1 < 0 then (some ([] : List Int)) else (if a1 ≥ (l0_2.length : Int) then (some ([] : List Int)) else (if 0 ≤ a1 then (if a1 < (l0_2.length : Int) then ((net_targets.f k ((rd_T41 l0_2 a1).f1)).bind fun t197 => (some t197)) else (none)) else (none)))) else (some ([] : List Int)))
theorem net_Inputs.mono : ∀ a0 a1 a2 a3 k, LeO (net_Inputs.f k a0 a1 a2 a3) (net_Inputs.f (k + 1) a0 a1 a2 a3) := by
 intro a0 a1 a2 a3 k
 unfold net_Inputs.f
 repeat' first | (with_reducible first | apply net_targets.mono | apply net_valid.mono | apply lr | apply ln | apply li | refine lb ?_ fun _ => ?_)
set_option maxHeartbeats 8000000 in
set_option maxRecDepth 100000 in
theorem net_Inputs.calls (k : Nat) (a0_0 : ByteArray) (A0_1 : Option Addr) (c0_1 : Nat) (l0_1 : List (S46)) (A0_2 : Option Addr) (c0_2 : Nat) (l0_2 : List (S41)) (a1 : Int) (r : List Int) (w : World) (hr0_1 : Kd.C k46 w A0_1 l0_1.length l0_1) (hc0_1 : l0_1.length ≤ c0_1) (hr0_2 : Kd.C k41 w A0_2 l0_2.length l0_2) (hc0_2 : l0_2.length ≤ c0_2) (h : net_Inputs.f k a0_0 l0_1 l0_2 a1 = some r) :
  Calls Try.prog 57 #[.agg #[.string a0_0, .slice A0_1 l0_1.length c0_1, .slice A0_2 l0_2.length c0_2], .int .i64 a1] w fun e w' => ∃ v0_ : Value, e = .returned (v0_) ∧ Kd.R (Kd.int .i64) 3 w' w.heap.size (fun _ => True) v0_ r ∧ Below w.heap.size w w' := by
 have hu25 := Try.underlying25
 have HR0_1 := am hr0_1
 have HC0_1 := am hc0_1
 clear hr0_1 hc0_1
 have HR0_2 := am hr0_2
 have HC0_2 := am hc0_2
 clear hr0_2 hc0_2
 have HB := am (Below.refl w.heap.size w)
 have H : ((net_valid.f k a0_0 l0_1 l0_2).bind fun t195 => (if t195 = true then (if a1 < 0 then (some ([] : List Int)) else (if a1 ≥ (l0_2.length : Int) then (some ([] : List Int)) else (if 0 ≤ a1 then (if a1 < (l0_2.length : Int) then ((net_targets.f k ((rd_T41 l0_2 a1).f1)).bind fun t197 => (some t197)) else (none)) else (none)))) else (some ([] : List Int)))) = some r := h
 clear h
 replace H := bnd H
 obtain ⟨t195, A3, H⟩ := H
 (try dsimp only at H)
 by_cases c4 : t195 = true
 rotate_left
 ·replace c4 := Bool.eq_false_iff.mpr c4
  subst c4
  rw [if_neg Bool.false_ne_true] at H
  obtain rfl := Option.some.inj H
  go_enter Try.func57, Try.ntmps57
  go_wp2_with (first | ((with_reducible refine gate_dst (N := 2) rfl ?_); (try (refine gate_guard (by rfl) ?_; dsimp only)); refine box_ev (N := 2) (cs := #[.string a0_0, .slice A0_1 l0_1.length c0_1, .slice A0_2 l0_2.length c0_2]) (t := 25) ?_; intro gb194 hg w22 hbox hb; have BK194 := am hbox; have GW194 := gwl hg; have GE194 := GW194; replace HB := bsl hb; clear hb hbox hg; have z23 := cf3 BK194.1) | ((with_reducible refine gate_callee (f := 81) rfl ?_); refine gC 6 Try.func81 _ (net_valid.calls k a0_0 _ _ l0_1 _ _ l0_2 false _ (csb HR0_1 HB) HC0_1.1 (csb HR0_2 HB) HC0_2.1 A3.1) ?_; rintro e w24 ⟨rfl, hb⟩; refine ⟨_, rfl, ?_⟩; replace BK194 := bbh BK194 hb; replace HB := bst hb; (try clear hb)))
  go_ret
  exact ⟨_, per, knl, pbg⟩
 subst c4
 rw [if_pos rfl] at H
 by_cases c5 : a1 < 0
 ·rw [if_pos c5] at H
  have c5b0 : decide (a1 < 0) = true := decide_eq_true c5
  clear c5
  obtain rfl := Option.some.inj H
  go_enter Try.func57, Try.ntmps57
  go_wp2_with (first | ((with_reducible refine gate_dst (N := 2) rfl ?_); (try (refine gate_guard (by rfl) ?_; dsimp only)); refine box_ev (N := 2) (cs := #[.string a0_0, .slice A0_1 l0_1.length c0_1, .slice A0_2 l0_2.length c0_2]) (t := 25) ?_; intro gb194 hg w6 hbox hb; have BK194 := am hbox; have GW194 := gwl hg; have GE194 := GW194; replace HB := bsl hb; clear hb hbox hg; have z7 := cf3 BK194.1) | ((with_reducible refine gate_callee (f := 81) rfl ?_); refine gC 6 Try.func81 _ (net_valid.calls k a0_0 _ _ l0_1 _ _ l0_2 true _ (csb HR0_1 HB) HC0_1.1 (csb HR0_2 HB) HC0_2.1 A3.1) ?_; rintro e w8 ⟨rfl, hb⟩; refine ⟨_, rfl, ?_⟩; replace BK194 := bbh BK194 hb; replace HB := bst hb; (try clear hb)))
  go_ret
  exact ⟨_, per, knl, pbg⟩
 rw [if_neg c5] at H
 have c5b0 : decide (a1 < 0) = false := decide_eq_false c5
 clear c5
 by_cases c9 : a1 ≥ (l0_2.length : Int)
 ·rw [if_pos c9] at H
  have c9b0 : decide ((l0_2.length : Int) ≤ a1) = true := decide_eq_true c9
  clear c9
  obtain rfl := Option.some.inj H
  go_enter Try.func57, Try.ntmps57
  go_wp2_with (first | ((with_reducible refine gate_dst (N := 2) rfl ?_); (try (refine gate_guard (by rfl) ?_; dsimp only)); refine box_ev (N := 2) (cs := #[.string a0_0, .slice A0_1 l0_1.length c0_1, .slice A0_2 l0_2.length c0_2]) (t := 25) ?_; intro gb194 hg w10 hbox hb; have BK194 := am hbox; have GW194 := gwl hg; have GE194 := GW194; replace HB := bsl hb; clear hb hbox hg; have z11 := cf3 BK194.1) | ((with_reducible refine gate_callee (f := 81) rfl ?_); refine gC 6 Try.func81 _ (net_valid.calls k a0_0 _ _ l0_1 _ _ l0_2 true _ (csb HR0_1 HB) HC0_1.1 (csb HR0_2 HB) HC0_2.1 A3.1) ?_; rintro e w12 ⟨rfl, hb⟩; refine ⟨_, rfl, ?_⟩; replace BK194 := bbh BK194 hb; replace HB := bst hb; (try clear hb); have z13 := cf3 BK194.1))
  go_ret
  exact ⟨_, per, knl, pbg⟩
 rw [if_neg c9] at H
 have c9b0 : decide ((l0_2.length : Int) ≤ a1) = false := decide_eq_false c9
 clear c9
 replace H := ifp H
 obtain ⟨c14, H⟩ := H
 have c14b0 := decide_eq_true c14
 clear c14
 replace H := ifp H
 obtain ⟨c15, H⟩ := H
 have c15b0 := decide_eq_true c15
 clear c15
 replace H := bnd H
 obtain ⟨t197, A16, H⟩ := H
 (try dsimp only at H)
 obtain rfl := Option.some.inj H
 go_enter Try.func57, Try.ntmps57
 go_wp2_with (first | ((with_reducible refine gate_dst (N := 2) rfl ?_); (try (refine gate_guard (by rfl) ?_; dsimp only)); refine box_ev (N := 2) (cs := #[.string a0_0, .slice A0_1 l0_1.length c0_1, .slice A0_2 l0_2.length c0_2]) (t := 25) ?_; intro gb194 hg w17 hbox hb; have BK194 := am hbox; have GW194 := gwl hg; have GE194 := GW194; replace HB := bsl hb; clear hb hbox hg; have z18 := cf3 BK194.1) | ((with_reducible refine gate_callee (f := 81) rfl ?_); refine gC 6 Try.func81 _ (net_valid.calls k a0_0 _ _ l0_1 _ _ l0_2 true _ (csb HR0_1 HB) HC0_1.1 (csb HR0_2 HB) HC0_2.1 A3.1) ?_; rintro e w19 ⟨rfl, hb⟩; refine ⟨_, rfl, ?_⟩; replace BK194 := bbh BK194 hb; replace HB := bst hb; (try clear hb); have z20 := cf3 BK194.1; have p196 : 0 ≤ (a1 : Int) := dq; have q196 : a1 < (l0_2.length : Int) := dq; obtain ⟨ad196, A196_1, c196_1, A196_2, c196_2, A196_3, c196_3, e196, hx196_0, hx196_1, hx196_2, hx196_3, hx196_4, hl196_1, hi196_1, hl196_2, hi196_2, hl196_3, hi196_3⟩ := at_T41 HR0_2.1 a1 p196 q196; cases e196; replace hx196_0 := cbl HB.1 hx196_0; replace hx196_1 := cbl HB.1 hx196_1; replace hx196_2 := cbl HB.1 hx196_2; replace hx196_3 := cbl HB.1 hx196_3; replace hx196_4 := cbl HB.1 hx196_4; have HR196_1 := am hi196_1; have HC196_1 := am hl196_1; clear hi196_1 hl196_1; have HR196_2 := am hi196_2; have HC196_2 := am hl196_2; clear hi196_2 hl196_2; have HR196_3 := am hi196_3; have HC196_3 := am hl196_3; clear hi196_3 hl196_3; replace p196 := eq_true p196; replace q196 := eq_true q196) | ((with_reducible refine gate_callee (f := 82) rfl ?_); refine gC 25 Try.func82 _ (net_targets.calls k _ _ ((rd_T41 l0_2 a1).f1) t197 _ (csb HR196_1 HB) HC196_1.1 A16.1) ?_; rintro e w21 ⟨v198, rfl, ho0, hb⟩; refine ⟨_, rfl, ?_⟩; have HO199 := am (Kd.R_lower ho0 (below_size pbg)); replace BK194 := bbh BK194 hb; replace HB := bst hb; (try clear hb); (try clear ho0)))
 go_ret
 exact ⟨_, per, by (with_reducible repeat (first | apply Kd.R_alloc | apply Kd.R_drewN | apply Kd.R_drew)); exact HO199.1, pbg⟩

/-! ### net_Outputs: function 58 -/
def net_Outputs.f (k : Nat) (a0_0 : ByteArray) (l0_1 : List (S46)) (l0_2 : List (S41)) (a1 : Int) : Option (List Int) := (net_valid.f k a0_0 l0_1 l0_2).bind fun t201 => (if t201 = true then (if a1 < 0 then (some ([] : List Int)) else (if a1 ≥ (l0_2.length : Int) then (some ([] : List Int)) else (if 0 ≤ a1 then (if a1 < (l0_2.length : Int) then ((net_targets.f k ((rd_T41 l0_2 a1).f2)).bind fun t203 => (some t203)) else (none)) else (none)))) else (some ([] : List Int)))
theorem net_Outputs.mono : ∀ a0 a1 a2 a3 k, LeO (net_Outputs.f k a0 a1 a2 a3) (net_Outputs.f (k + 1) a0 a1 a2 a3) := by
 intro a0 a1 a2 a3 k
 unfold net_Outputs.f
 repeat' first | (with_reducible first | apply net_targets.mono | apply net_valid.mono | apply lr | apply ln | apply li | refine lb ?_ fun _ => ?_)
set_option maxHeartbeats 8000000 in
set_option maxRecDepth 100000 in
theorem net_Outputs.calls (k : Nat) (a0_0 : ByteArray) (A0_1 : Option Addr) (c0_1 : Nat) (l0_1 : List (S46)) (A0_2 : Option Addr) (c0_2 : Nat) (l0_2 : List (S41)) (a1 : Int) (r : List Int) (w : World) (hr0_1 : Kd.C k46 w A0_1 l0_1.length l0_1) (hc0_1 : l0_1.length ≤ c0_1) (hr0_2 : Kd.C k41 w A0_2 l0_2.length l0_2) (hc0_2 : l0_2.length ≤ c0_2) (h : net_Outputs.f k a0_0 l0_1 l0_2 a1 = some r) :
  Calls Try.prog 58 #[.agg #[.string a0_0, .slice A0_1 l0_1.length c0_1, .slice A0_2 l0_2.length c0_2], .int .i64 a1] w fun e w' => ∃ v0_ : Value, e = .returned (v0_) ∧ Kd.R (Kd.int .i64) 3 w' w.heap.size (fun _ => True) v0_ r ∧ Below w.heap.size w w' := by
 have hu25 := Try.underlying25
 have HR0_1 := am hr0_1
 have HC0_1 := am hc0_1
 clear hr0_1 hc0_1
 have HR0_2 := am hr0_2
 have HC0_2 := am hc0_2
 clear hr0_2 hc0_2
 have HB := am (Below.refl w.heap.size w)
 have H : ((net_valid.f k a0_0 l0_1 l0_2).bind fun t201 => (if t201 = true then (if a1 < 0 then (some ([] : List Int)) else (if a1 ≥ (l0_2.length : Int) then (some ([] : List Int)) else (if 0 ≤ a1 then (if a1 < (l0_2.length : Int) then ((net_targets.f k ((rd_T41 l0_2 a1).f2)).bind fun t203 => (some t203)) else (none)) else (none)))) else (some ([] : List Int)))) = some r := h
 clear h
 replace H := bnd H
 obtain ⟨t201, A3, H⟩ := H
 (try dsimp only at H)
 by_cases c4 : t201 = true
 rotate_left
 ·replace c4 := Bool.eq_false_iff.mpr c4
  subst c4
  rw [if_neg Bool.false_ne_true] at H
  obtain rfl := Option.some.inj H
  go_enter Try.func58, Try.ntmps58
  go_wp2_with (first | ((with_reducible refine gate_dst (N := 2) rfl ?_); (try (refine gate_guard (by rfl) ?_; dsimp only)); refine box_ev (N := 2) (cs := #[.string a0_0, .slice A0_1 l0_1.length c0_1, .slice A0_2 l0_2.length c0_2]) (t := 25) ?_; intro gb200 hg w22 hbox hb; have BK200 := am hbox; have GW200 := gwl hg; have GE200 := GW200; replace HB := bsl hb; clear hb hbox hg; have z23 := cf3 BK200.1) | ((with_reducible refine gate_callee (f := 81) rfl ?_); refine gC 6 Try.func81 _ (net_valid.calls k a0_0 _ _ l0_1 _ _ l0_2 false _ (csb HR0_1 HB) HC0_1.1 (csb HR0_2 HB) HC0_2.1 A3.1) ?_; rintro e w24 ⟨rfl, hb⟩; refine ⟨_, rfl, ?_⟩; replace BK200 := bbh BK200 hb; replace HB := bst hb; (try clear hb)))
  go_ret
  exact ⟨_, per, knl, pbg⟩
 subst c4
 rw [if_pos rfl] at H
 by_cases c5 : a1 < 0
 ·rw [if_pos c5] at H
  have c5b0 : decide (a1 < 0) = true := decide_eq_true c5
  clear c5
  obtain rfl := Option.some.inj H
  go_enter Try.func58, Try.ntmps58
  go_wp2_with (first | ((with_reducible refine gate_dst (N := 2) rfl ?_); (try (refine gate_guard (by rfl) ?_; dsimp only)); refine box_ev (N := 2) (cs := #[.string a0_0, .slice A0_1 l0_1.length c0_1, .slice A0_2 l0_2.length c0_2]) (t := 25) ?_; intro gb200 hg w6 hbox hb; have BK200 := am hbox; have GW200 := gwl hg; have GE200 := GW200; replace HB := bsl hb; clear hb hbox hg; have z7 := cf3 BK200.1) | ((with_reducible refine gate_callee (f := 81) rfl ?_); refine gC 6 Try.func81 _ (net_valid.calls k a0_0 _ _ l0_1 _ _ l0_2 true _ (csb HR0_1 HB) HC0_1.1 (csb HR0_2 HB) HC0_2.1 A3.1) ?_; rintro e w8 ⟨rfl, hb⟩; refine ⟨_, rfl, ?_⟩; replace BK200 := bbh BK200 hb; replace HB := bst hb; (try clear hb)))
  go_ret
  exact ⟨_, per, knl, pbg⟩
 rw [if_neg c5] at H
 have c5b0 : decide (a1 < 0) = false := decide_eq_false c5
 clear c5
 by_cases c9 : a1 ≥ (l0_2.length : Int)
 ·rw [if_pos c9] at H
  have c9b0 : decide ((l0_2.length : Int) ≤ a1) = true := decide_eq_true c9
  clear c9
  obtain rfl := Option.some.inj H
  go_enter Try.func58, Try.ntmps58
  go_wp2_with (first | ((with_reducible refine gate_dst (N := 2) rfl ?_); (try (refine gate_guard (by rfl) ?_; dsimp only)); refine box_ev (N := 2) (cs := #[.string a0_0, .slice A0_1 l0_1.length c0_1, .slice A0_2 l0_2.length c0_2]) (t := 25) ?_; intro gb200 hg w10 hbox hb; have BK200 := am hbox; have GW200 := gwl hg; have GE200 := GW200; replace HB := bsl hb; clear hb hbox hg; have z11 := cf3 BK200.1) | ((with_reducible refine gate_callee (f := 81) rfl ?_); refine gC 6 Try.func81 _ (net_valid.calls k a0_0 _ _ l0_1 _ _ l0_2 true _ (csb HR0_1 HB) HC0_1.1 (csb HR0_2 HB) HC0_2.1 A3.1) ?_; rintro e w12 ⟨rfl, hb⟩; refine ⟨_, rfl, ?_⟩; replace BK200 := bbh BK200 hb; replace HB := bst hb; (try clear hb); have z13 := cf3 BK200.1))
  go_ret
  exact ⟨_, per, knl, pbg⟩
 rw [if_neg c9] at H
 have c9b0 : decide ((l0_2.length : Int) ≤ a1) = false := decide_eq_false c9
 clear c9
 replace H := ifp H
 obtain ⟨c14, H⟩ := H
 have c14b0 := decide_eq_true c14
 clear c14
 replace H := ifp H
 obtain ⟨c15, H⟩ := H
 have c15b0 := decide_eq_true c15
 clear c15
 replace H := bnd H
 obtain ⟨t203, A16, H⟩ := H
 (try dsimp only at H)
 obtain rfl := Option.some.inj H
 go_enter Try.func58, Try.ntmps58
 go_wp2_with (first | ((with_reducible refine gate_dst (N := 2) rfl ?_); (try (refine gate_guard (by rfl) ?_; dsimp only)); refine box_ev (N := 2) (cs := #[.string a0_0, .slice A0_1 l0_1.length c0_1, .slice A0_2 l0_2.length c0_2]) (t := 25) ?_; intro gb200 hg w17 hbox hb; have BK200 := am hbox; have GW200 := gwl hg; have GE200 := GW200; replace HB := bsl hb; clear hb hbox hg; have z18 := cf3 BK200.1) | ((with_reducible refine gate_callee (f := 81) rfl ?_); refine gC 6 Try.func81 _ (net_valid.calls k a0_0 _ _ l0_1 _ _ l0_2 true _ (csb HR0_1 HB) HC0_1.1 (csb HR0_2 HB) HC0_2.1 A3.1) ?_; rintro e w19 ⟨rfl, hb⟩; refine ⟨_, rfl, ?_⟩; replace BK200 := bbh BK200 hb; replace HB := bst hb; (try clear hb); have z20 := cf3 BK200.1; have p202 : 0 ≤ (a1 : Int) := dq; have q202 : a1 < (l0_2.length : Int) := dq; obtain ⟨ad202, A202_1, c202_1, A202_2, c202_2, A202_3, c202_3, e202, hx202_0, hx202_1, hx202_2, hx202_3, hx202_4, hl202_1, hi202_1, hl202_2, hi202_2, hl202_3, hi202_3⟩ := at_T41 HR0_2.1 a1 p202 q202; cases e202; replace hx202_0 := cbl HB.1 hx202_0; replace hx202_1 := cbl HB.1 hx202_1; replace hx202_2 := cbl HB.1 hx202_2; replace hx202_3 := cbl HB.1 hx202_3; replace hx202_4 := cbl HB.1 hx202_4; have HR202_1 := am hi202_1; have HC202_1 := am hl202_1; clear hi202_1 hl202_1; have HR202_2 := am hi202_2; have HC202_2 := am hl202_2; clear hi202_2 hl202_2; have HR202_3 := am hi202_3; have HC202_3 := am hl202_3; clear hi202_3 hl202_3; replace p202 := eq_true p202; replace q202 := eq_true q202) | ((with_reducible refine gate_callee (f := 82) rfl ?_); refine gC 25 Try.func82 _ (net_targets.calls k _ _ ((rd_T41 l0_2 a1).f2) t203 _ (csb HR202_2 HB) HC202_2.1 A16.1) ?_; rintro e w21 ⟨v204, rfl, ho0, hb⟩; refine ⟨_, rfl, ?_⟩; have HO205 := am (Kd.R_lower ho0 (below_size pbg)); replace BK200 := bbh BK200 hb; replace HB := bst hb; (try clear hb); (try clear ho0)))
 go_ret
 exact ⟨_, per, by (with_reducible repeat (first | apply Kd.R_alloc | apply Kd.R_drewN | apply Kd.R_drew)); exact HO205.1, pbg⟩

/-! ### netclass_Pure: function 26 -/
def netclass_Pure.l0 : Nat → Int → Int → ByteArray → List (S46) → List (S41) → Option (Bool)
 | 0, _, _, _, _, _ => none
 | k + 1, x9, x10, x207000, x207001, x207002 => if x10 < x9 then ((net_Inputs.f k x207000 x207001 x207002 x10).bind fun t208 => ((net_Outputs.f k x207000 x207001 x207002 x10).bind fun t211 => ((netclass_meet.f k t208 t211).bind fun t214 => (if t214 = true then (some false) else (netclass_Pure.l0 k x9 (wrap64 (x10 + 1)) x207000 x207001 x207002))))) else (some true)
def netclass_Pure.f (k : Nat) (a0_0 : ByteArray) (l0_1 : List (S46)) (l0_2 : List (S41)) : Option (Bool) := (netclass_valid.f k a0_0 l0_1 l0_2).bind fun t207 => (if t207 = true then (netclass_Pure.l0 k (l0_2.length : Int) 0 a0_0 l0_1 l0_2) else (some false))
theorem netclass_Pure.mono_l : ∀ k, M5 netclass_Pure.l0 k
 | 0 => fun _ _ _ _ _ r h => by simp [netclass_Pure.l0] at h
 | k + 1 => by
  have ih0 := netclass_Pure.mono_l k
  ·intro y0 y1 y2 y3 y4
   unfold netclass_Pure.l0
   repeat' first | (with_reducible first | apply ih0 | apply net_Inputs.mono | apply net_Outputs.mono | apply netclass_meet.mono | apply netclass_valid.mono | apply lr | apply ln | apply li | refine lb ?_ fun _ => ?_)
theorem netclass_Pure.mono : ∀ a0 a1 a2 k, LeO (netclass_Pure.f k a0 a1 a2) (netclass_Pure.f (k + 1) a0 a1 a2) := by
 intro a0 a1 a2 k
 have ih0 := netclass_Pure.mono_l k
 unfold netclass_Pure.f
 repeat' first | (with_reducible first | apply ih0 | apply net_Inputs.mono | apply net_Outputs.mono | apply netclass_meet.mono | apply netclass_valid.mono | apply lr | apply ln | apply li | refine lb ?_ fun _ => ?_)
set_option maxHeartbeats 8000000 in
set_option maxRecDepth 100000 in
theorem netclass_Pure.calls (k : Nat) (a0_0 : ByteArray) (A0_1 : Option Addr) (c0_1 : Nat) (l0_1 : List (S46)) (A0_2 : Option Addr) (c0_2 : Nat) (l0_2 : List (S41)) (r : Bool) (w : World) (hr0_1 : Kd.C k46 w A0_1 l0_1.length l0_1) (hc0_1 : l0_1.length ≤ c0_1) (hr0_2 : Kd.C k41 w A0_2 l0_2.length l0_2) (hc0_2 : l0_2.length ≤ c0_2) (h : netclass_Pure.f k a0_0 l0_1 l0_2 = some r) :
  Calls Try.prog 26 #[.agg #[.string a0_0, .slice A0_1 l0_1.length c0_1, .slice A0_2 l0_2.length c0_2]] w fun e w' => e = .returned (.bool r) ∧ Below w.heap.size w w' := by
 have hu25 := Try.underlying25
 have HR0_1 := am hr0_1
 have HC0_1 := am hc0_1
 clear hr0_1 hc0_1
 have HR0_2 := am hr0_2
 have HC0_2 := am hc0_2
 clear hr0_2 hc0_2
 have HB := am (Below.refl w.heap.size w)
 have H : ((netclass_valid.f k a0_0 l0_1 l0_2).bind fun t207 => (if t207 = true then (netclass_Pure.l0 k (l0_2.length : Int) 0 a0_0 l0_1 l0_2) else (some false))) = some r := h
 clear h
 replace H := bnd H
 obtain ⟨t207, A2, H⟩ := H
 (try dsimp only at H)
 by_cases c3 : t207 = true
 rotate_left
 ·replace c3 := Bool.eq_false_iff.mpr c3
  subst c3
  rw [if_neg Bool.false_ne_true] at H
  obtain rfl := Option.some.inj H
  go_enter Try.func26, Try.ntmps26
  go_wp2_with (first | ((with_reducible refine gate_dst (N := 1) rfl ?_); refine box_ev (N := 1) (cs := #[.string a0_0, .slice A0_1 l0_1.length c0_1, .slice A0_2 l0_2.length c0_2]) (t := 25) ?_; intro gb206 hg w23 hbox hb; have BK206 := am hbox; have GW206 := gwl hg; have GE206 := GW206; replace HB := bsl hb; clear hb hbox hg; have z24 := cf3 BK206.1) | ((with_reducible refine gate_callee (f := 37) rfl ?_); refine gC 5 Try.func37 _ (netclass_valid.calls k a0_0 _ _ l0_1 _ _ l0_2 false _ (csb HR0_1 HB) HC0_1.1 (csb HR0_2 HB) HC0_2.1 A2.1) ?_; rintro e w25 ⟨rfl, hb⟩; refine ⟨_, rfl, ?_⟩; replace BK206 := bbh BK206 hb; replace HB := bst hb; (try clear hb)))
  go_ret
  exact ⟨per, pbg⟩
 subst c3
 rw [if_pos rfl] at H
 have H' := am H
 clear H
 go_enter Try.func26, Try.ntmps26
 go_wp2_with (first | ((with_reducible refine gate_dst (N := 1) rfl ?_); refine box_ev (N := 1) (cs := #[.string a0_0, .slice A0_1 l0_1.length c0_1, .slice A0_2 l0_2.length c0_2]) (t := 25) ?_; intro gb206 hg w4 hbox hb; have BK206 := am hbox; have GW206 := gwl hg; have GE206 := GW206; replace HB := bsl hb; clear hb hbox hg; have z5 := cf3 BK206.1) | ((with_reducible refine gate_callee (f := 37) rfl ?_); refine gC 5 Try.func37 _ (netclass_valid.calls k a0_0 _ _ l0_1 _ _ l0_2 true _ (csb HR0_1 HB) HC0_1.1 (csb HR0_2 HB) HC0_2.1 A2.1) ?_; rintro e w6 ⟨rfl, hb⟩; refine ⟨_, rfl, ?_⟩; replace BK206 := bbh BK206 hb; replace HB := bst hb; (try clear hb); have z7 := cf3 BK206.1))
 go_loopg [10] k (fun kq v10 w' => ∃ (x10_1 : Int), v10 = .int .i64 x10_1 ∧ Aside0 (netclass_Pure.l0 kq (l0_2.length : Int) x10_1 a0_0 l0_1 l0_2 = some r) ∧ Aside0 (kq ≤ k) ∧ Aside0 (w'.heap[gb206]? = some (.cells #[.string a0_0, (.slice A0_1 l0_1.length c0_1), (.slice A0_2 l0_2.length c0_2)] 25 (0, 0))) ∧ Aside0 (Below w.heap.size w w'))
 case atStart => exact ⟨(0), prs, H', ⟨Nat.le_refl _⟩, ⟨pbk BK206.1⟩, ⟨pbg⟩⟩
 clear H'
 try clear c3 z5 z7
 obtain ⟨x10_1, rfl, HA, HK1, BK206, HB⟩ := hrel
 obtain _ | k1 := gk
 ·exact absurd HA.1 (by simp [netclass_Pure.l0])
 have H := HA.1
 clear HA
 simp only [netclass_Pure.l0] at H
 by_cases c8 : x10_1 < (l0_2.length : Int)
 rotate_left
 ·rw [if_neg c8] at H
  have c8b0 : decide (x10_1 < (l0_2.length : Int)) = false := decide_eq_false c8
  clear c8
  obtain rfl := Option.some.inj H
  go_wp2
  go_ret
  exact ⟨per, pbg⟩
 rw [if_pos c8] at H
 have c8b0 : decide (x10_1 < (l0_2.length : Int)) = true := decide_eq_true c8
 clear c8
 replace H := bnd H
 obtain ⟨t208, A9, H⟩ := H
 (try dsimp only at H)
 replace H := bnd H
 obtain ⟨t211, A10, H⟩ := H
 (try dsimp only at H)
 replace H := bnd H
 obtain ⟨t214, A11, H⟩ := H
 (try dsimp only at H)
 by_cases c12 : t214 = true
 ·subst c12
  rw [if_pos rfl] at H
  obtain rfl := Option.some.inj H
  try go_wp2
  replace BK206 := am (blk_drew BK206.1)
  replace HB := am (below_drew1 HB.1)
  refine start_ (n := 7) (S := fun w' => w'.cell? ⟨gb206, 0, none⟩ = some (.string a0_0) ∧ w'.cell? ⟨gb206, 1, none⟩ = some (.slice A0_1 l0_1.length c0_1) ∧ w'.cell? ⟨gb206, 2, none⟩ = some (.slice A0_2 l0_2.length c0_2)) (ds := []) #[false, false, false, false, false, false, false] (by kernel_rfl) rfl rfl ⟨(blk_cell BK206.1 0).trans rfl, (blk_cell BK206.1 1).trans rfl, (blk_cell BK206.1 2).trans rfl⟩ (fun hHeld => ?_)
  generalize wr.drew = w13 at BK206 HB hHeld ⊢
  refine pure_ (i := 1) (N := some 14) (v := ?_) (a' := ?_) #[false, true, false, false, false, false, false] rfl rfl (by kernel_rfl) (fun _ _ _ h => h) (Or.inl ⟨by rfl, ?_⟩) ?_ ?_
  rotate_left
  ·intro w'
   go_simp
   with_reducible rfl
  rotate_left
  ·simp only [Act.put, List.setIfInBounds_toArray, List.set_cons_zero, List.set_cons_succ, i64_w, i32_w]
   rfl
  refine pure_ (i := 4) (N := some 17) (v := ?_) (a' := ?_) #[false, true, false, false, true, false, false] rfl rfl (by kernel_rfl) (fun _ _ _ h => h) (Or.inl ⟨by rfl, ?_⟩) ?_ ?_
  rotate_left
  ·intro w'
   go_simp
   with_reducible rfl
  rotate_left
  ·simp only [Act.put, List.setIfInBounds_toArray, List.set_cons_zero, List.set_cons_succ, i64_w, i32_w]
   rfl
  refine take_ (i := 0) (N := some 13) (v := ?_) (a' := ?_) #[true, true, false, false, true, false, false] rfl rfl (by kernel_rfl) (fun _ _ _ h => h) (Or.inl ⟨by rfl, ?_⟩) hHeld ?_ ?_
  rotate_left
  ·rintro w' ⟨s0, s1, s2⟩
   go_simp
   with_reducible rfl
  rotate_left
  ·simp only [Act.put, List.setIfInBounds_toArray, List.set_cons_zero, List.set_cons_succ, i64_w, i32_w]
   rfl
  refine take_ (i := 3) (N := some 16) (v := ?_) (a' := ?_) #[true, true, false, true, true, false, false] rfl rfl (by kernel_rfl) (fun _ _ _ h => h) (Or.inl ⟨by rfl, ?_⟩) hHeld ?_ ?_
  rotate_left
  ·rintro w' ⟨s0, s1, s2⟩
   go_simp
   with_reducible rfl
  rotate_left
  ·simp only [Act.put, List.setIfInBounds_toArray, List.set_cons_zero, List.set_cons_succ, i64_w, i32_w]
   rfl
  refine one_ (i := 2) (N := some 15) #[true, true, true, true, true, false, false] rfl rfl (by kernel_rfl) (by decide) (fun K hK => ?_)
  refine goes_ Try.func57 (by kernel_rfl) rfl #[.agg #[.string a0_0, .slice A0_1 l0_1.length c0_1, .slice A0_2 l0_2.length c0_2], .int .i64 x10_1] (by rfl) rfl rfl pgz ?_
  with_reducible refine (net_Inputs.calls k1 a0_0 _ _ l0_1 _ _ l0_2 x10_1 t208 _ ?side1 ?side2 ?side3 ?side4 A9.1).mono ?_
  (case side1 => exact csb HR0_1 HB)
  (case side2 => exact HC0_1.1)
  (case side3 => exact csb HR0_2 HB)
  (case side4 => exact HC0_2.1)
  rintro e w14 ⟨v209, rfl, ho0, hb⟩
  refine ⟨_, rfl, ?_⟩
  have HO210 := am (Kd.R_lower ho0 (below_size pbg))
  replace BK206 := bbh BK206 hb
  replace HB := bst hb
  (try clear hb)
  (try clear hb2)
  (try clear hk)
  (try clear hi)
  (try clear ho0)
  refine hK.out _ _ ⟨(blk_cell BK206.1 0).trans rfl, (blk_cell BK206.1 1).trans rfl, (blk_cell BK206.1 2).trans rfl⟩ (fun hHeld => ?_)
  clear hK K
  refine nm_ ?_
  refine one_ (i := 5) (N := some 18) #[true, true, true, true, true, true, false] rfl rfl (by kernel_rfl) (by decide) (fun K hK => ?_)
  refine goes_ Try.func58 (by kernel_rfl) rfl #[.agg #[.string a0_0, .slice A0_1 l0_1.length c0_1, .slice A0_2 l0_2.length c0_2], .int .i64 x10_1] (by rfl) rfl rfl pgz ?_
  with_reducible refine (net_Outputs.calls k1 a0_0 _ _ l0_1 _ _ l0_2 x10_1 t211 _ ?side1 ?side2 ?side3 ?side4 A10.1).mono ?_
  (case side1 => exact csb HR0_1 HB)
  (case side2 => exact HC0_1.1)
  (case side3 => exact csb HR0_2 HB)
  (case side4 => exact HC0_2.1)
  rintro e w15 ⟨v212, rfl, ho0, hb⟩
  refine ⟨_, rfl, ?_⟩
  have HO213 := am (Kd.R_lower (Kd.R_new' ho0 (Kd.R_lt (pkr HO210.1))) (below_size pbg))
  replace HO210 := am (Kd.R_elder' (pkr HO210.1) (Kd.R_base ho0) hb)
  replace BK206 := bbh BK206 hb
  replace HB := bst hb
  (try clear hb)
  (try clear hb2)
  (try clear hk)
  (try clear hi)
  (try clear ho0)
  obtain ⟨Ao16, co16, eo16⟩ := Kd.R_slice HO210.1
  (first | subst eo16 | (injection eo16 with f1_ f2_ f3_; have f4_ := f1_.symm; have f5_ := f3_.symm; clear f1_ f2_ f3_; subst f4_; subst f5_))
  obtain ⟨Ao17, co17, eo17⟩ := Kd.R_slice HO213.1
  (first | subst eo17 | (injection eo17 with f1_ f2_ f3_; have f4_ := f1_.symm; have f5_ := f3_.symm; clear f1_ f2_ f3_; subst f4_; subst f5_))
  refine hK.out _ _ ⟨(blk_cell BK206.1 0).trans rfl, (blk_cell BK206.1 1).trans rfl, (blk_cell BK206.1 2).trans rfl⟩ (fun hHeld => ?_)
  clear hK K
  refine nm_ ?_
  refine one_ (i := 6) (N := some 19) #[true, true, true, true, true, true, true] rfl rfl (by kernel_rfl) (by decide) (fun K hK => ?_)
  refine goes_ Try.func56 (by kernel_rfl) rfl #[.slice Ao16 t208.length co16, .slice Ao17 t211.length co17] (by rfl) rfl rfl pgz ?_
  with_reducible refine (netclass_meet.calls k1 _ _ t208 _ _ t211 true _ ?side1 ?side2 ?side3 ?side4 A11.1).mono ?_
  (case side1 => exact csd ((Kd.R_reads' HO210.1).2.2))
  (case side2 => exact (Kd.R_reads' HO210.1).2.1)
  (case side3 => exact csd ((Kd.R_reads' HO213.1).2.2))
  (case side4 => exact (Kd.R_reads' HO213.1).2.1)
  rintro e w' ⟨rfl, ⟨nd, rfl⟩⟩
  refine ⟨_, rfl, ?_⟩
  refine hK.out _ _ ⟨(blk_cell BK206.1 0).trans rfl, (blk_cell BK206.1 1).trans rfl, (blk_cell BK206.1 2).trans rfl⟩ (fun hHeld => ?_)
  clear hK K
  refine nm_ ?_
  refine done_ (by kernel_rfl) ?_
  try go_wp2
  go_ret
  exact ⟨per, pbg⟩
 replace c12 := Bool.eq_false_iff.mpr c12
 subst c12
 rw [if_neg Bool.false_ne_true] at H
 have H' := am H
 clear H
 try go_wp2
 replace BK206 := am (blk_drew BK206.1)
 replace HB := am (below_drew1 HB.1)
 refine start_ (n := 7) (S := fun w' => w'.cell? ⟨gb206, 0, none⟩ = some (.string a0_0) ∧ w'.cell? ⟨gb206, 1, none⟩ = some (.slice A0_1 l0_1.length c0_1) ∧ w'.cell? ⟨gb206, 2, none⟩ = some (.slice A0_2 l0_2.length c0_2)) (ds := []) #[false, false, false, false, false, false, false] (by kernel_rfl) rfl rfl ⟨(blk_cell BK206.1 0).trans rfl, (blk_cell BK206.1 1).trans rfl, (blk_cell BK206.1 2).trans rfl⟩ (fun hHeld => ?_)
 generalize wr.drew = w18 at BK206 HB hHeld ⊢
 refine pure_ (i := 1) (N := some 14) (v := ?_) (a' := ?_) #[false, true, false, false, false, false, false] rfl rfl (by kernel_rfl) (fun _ _ _ h => h) (Or.inl ⟨by rfl, ?_⟩) ?_ ?_
 rotate_left
 ·intro w'
  go_simp
  with_reducible rfl
 rotate_left
 ·simp only [Act.put, List.setIfInBounds_toArray, List.set_cons_zero, List.set_cons_succ, i64_w, i32_w]
  rfl
 refine pure_ (i := 4) (N := some 17) (v := ?_) (a' := ?_) #[false, true, false, false, true, false, false] rfl rfl (by kernel_rfl) (fun _ _ _ h => h) (Or.inl ⟨by rfl, ?_⟩) ?_ ?_
 rotate_left
 ·intro w'
  go_simp
  with_reducible rfl
 rotate_left
 ·simp only [Act.put, List.setIfInBounds_toArray, List.set_cons_zero, List.set_cons_succ, i64_w, i32_w]
  rfl
 refine take_ (i := 0) (N := some 13) (v := ?_) (a' := ?_) #[true, true, false, false, true, false, false] rfl rfl (by kernel_rfl) (fun _ _ _ h => h) (Or.inl ⟨by rfl, ?_⟩) hHeld ?_ ?_
 rotate_left
 ·rintro w' ⟨s0, s1, s2⟩
  go_simp
  with_reducible rfl
 rotate_left
 ·simp only [Act.put, List.setIfInBounds_toArray, List.set_cons_zero, List.set_cons_succ, i64_w, i32_w]
  rfl
 refine take_ (i := 3) (N := some 16) (v := ?_) (a' := ?_) #[true, true, false, true, true, false, false] rfl rfl (by kernel_rfl) (fun _ _ _ h => h) (Or.inl ⟨by rfl, ?_⟩) hHeld ?_ ?_
 rotate_left
 ·rintro w' ⟨s0, s1, s2⟩
  go_simp
  with_reducible rfl
 rotate_left
 ·simp only [Act.put, List.setIfInBounds_toArray, List.set_cons_zero, List.set_cons_succ, i64_w, i32_w]
  rfl
 refine one_ (i := 2) (N := some 15) #[true, true, true, true, true, false, false] rfl rfl (by kernel_rfl) (by decide) (fun K hK => ?_)
 refine goes_ Try.func57 (by kernel_rfl) rfl #[.agg #[.string a0_0, .slice A0_1 l0_1.length c0_1, .slice A0_2 l0_2.length c0_2], .int .i64 x10_1] (by rfl) rfl rfl pgz ?_
 with_reducible refine (net_Inputs.calls k1 a0_0 _ _ l0_1 _ _ l0_2 x10_1 t208 _ ?side1 ?side2 ?side3 ?side4 A9.1).mono ?_
 (case side1 => exact csb HR0_1 HB)
 (case side2 => exact HC0_1.1)
 (case side3 => exact csb HR0_2 HB)
 (case side4 => exact HC0_2.1)
 rintro e w19 ⟨v209, rfl, ho0, hb⟩
 refine ⟨_, rfl, ?_⟩
 have HO210 := am (Kd.R_lower ho0 (below_size pbg))
 replace BK206 := bbh BK206 hb
 replace HB := bst hb
 (try clear hb)
 (try clear hb2)
 (try clear hk)
 (try clear hi)
 (try clear ho0)
 refine hK.out _ _ ⟨(blk_cell BK206.1 0).trans rfl, (blk_cell BK206.1 1).trans rfl, (blk_cell BK206.1 2).trans rfl⟩ (fun hHeld => ?_)
 clear hK K
 refine nm_ ?_
 refine one_ (i := 5) (N := some 18) #[true, true, true, true, true, true, false] rfl rfl (by kernel_rfl) (by decide) (fun K hK => ?_)
 refine goes_ Try.func58 (by kernel_rfl) rfl #[.agg #[.string a0_0, .slice A0_1 l0_1.length c0_1, .slice A0_2 l0_2.length c0_2], .int .i64 x10_1] (by rfl) rfl rfl pgz ?_
 with_reducible refine (net_Outputs.calls k1 a0_0 _ _ l0_1 _ _ l0_2 x10_1 t211 _ ?side1 ?side2 ?side3 ?side4 A10.1).mono ?_
 (case side1 => exact csb HR0_1 HB)
 (case side2 => exact HC0_1.1)
 (case side3 => exact csb HR0_2 HB)
 (case side4 => exact HC0_2.1)
 rintro e w20 ⟨v212, rfl, ho0, hb⟩
 refine ⟨_, rfl, ?_⟩
 have HO213 := am (Kd.R_lower (Kd.R_new' ho0 (Kd.R_lt (pkr HO210.1))) (below_size pbg))
 replace HO210 := am (Kd.R_elder' (pkr HO210.1) (Kd.R_base ho0) hb)
 replace BK206 := bbh BK206 hb
 replace HB := bst hb
 (try clear hb)
 (try clear hb2)
 (try clear hk)
 (try clear hi)
 (try clear ho0)
 obtain ⟨Ao21, co21, eo21⟩ := Kd.R_slice HO210.1
 (first | subst eo21 | (injection eo21 with f1_ f2_ f3_; have f4_ := f1_.symm; have f5_ := f3_.symm; clear f1_ f2_ f3_; subst f4_; subst f5_))
 obtain ⟨Ao22, co22, eo22⟩ := Kd.R_slice HO213.1
 (first | subst eo22 | (injection eo22 with f1_ f2_ f3_; have f4_ := f1_.symm; have f5_ := f3_.symm; clear f1_ f2_ f3_; subst f4_; subst f5_))
 refine hK.out _ _ ⟨(blk_cell BK206.1 0).trans rfl, (blk_cell BK206.1 1).trans rfl, (blk_cell BK206.1 2).trans rfl⟩ (fun hHeld => ?_)
 clear hK K
 refine nm_ ?_
 refine one_ (i := 6) (N := some 19) #[true, true, true, true, true, true, true] rfl rfl (by kernel_rfl) (by decide) (fun K hK => ?_)
 refine goes_ Try.func56 (by kernel_rfl) rfl #[.slice Ao21 t208.length co21, .slice Ao22 t211.length co22] (by rfl) rfl rfl pgz ?_
 with_reducible refine (netclass_meet.calls k1 _ _ t208 _ _ t211 false _ ?side1 ?side2 ?side3 ?side4 A11.1).mono ?_
 (case side1 => exact csd ((Kd.R_reads' HO210.1).2.2))
 (case side2 => exact (Kd.R_reads' HO210.1).2.1)
 (case side3 => exact csd ((Kd.R_reads' HO213.1).2.2))
 (case side4 => exact (Kd.R_reads' HO213.1).2.1)
 rintro e w' ⟨rfl, ⟨nd, rfl⟩⟩
 refine ⟨_, rfl, ?_⟩
 refine hK.out _ _ ⟨(blk_cell BK206.1 0).trans rfl, (blk_cell BK206.1 1).trans rfl, (blk_cell BK206.1 2).trans rfl⟩ (fun hHeld => ?_)
 clear hK K
 refine nm_ ?_
 refine done_ (by kernel_rfl) ?_
 try go_wp2
 go_roundg k1
 case measure => have := HK1.1; omega
 case rel => exact ⟨(wrap64 (x10_1 + 1)), prs, H', ⟨by have := HK1.1; omega⟩, ⟨pbk BK206.1⟩, ⟨pbg⟩⟩

/-! ### net_Plain: function 62 -/
mutual
def net_Plain.l0 : Nat → List (S41) → Int → Int → ByteArray → List (S46) → List (S41) → Option (Bool)
 | 0, _, _, _, _, _, _ => none
 | k + 1, x8, x9, x10, x227000, x227001, x227002 => if x10 < x9 then (if 0 ≤ x10 then (if x10 < (x8.length : Int) then (if (((rd_T41 x8 x10).f3).length : Int) > 0 then (some false) else (if ((rd_T41 x8 x10).f4) = 0 then (net_Plain.l0 k x8 x9 (wrap64 (x10 + 1)) x227000 x227001 x227002) else (some false))) else (none)) else (none)) else (net_Plain.l1 k x227001 (x227001.length : Int) 0 x227000 x227001 x227002)
def net_Plain.l1 : Nat → List (S46) → Int → Int → ByteArray → List (S46) → List (S41) → Option (Bool)
 | 0, _, _, _, _, _, _ => none
 | k + 1, x25, x26, x27, x227000, x227001, x227002 => if x27 < x26 then (if 0 ≤ x27 then (if x27 < (x25.length : Int) then (if ((rd_T46 x25 x27).f2) = 0 then (net_Plain.l1 k x25 x26 (wrap64 (x27 + 1)) x227000 x227001 x227002) else (some false)) else (none)) else (none)) else ((net_valid.f k x227000 x227001 x227002).bind fun t231 => (some t231))
end
def net_Plain.f (k : Nat) (a0_0 : ByteArray) (l0_1 : List (S46)) (l0_2 : List (S41)) : Option (Bool) := net_Plain.l0 k l0_2 (l0_2.length : Int) 0 a0_0 l0_1 l0_2
theorem net_Plain.mono_l : ∀ k, M6 net_Plain.l0 k ∧ M6 net_Plain.l1 k
 | 0 => ⟨fun _ _ _ _ _ _ r h => by simp [net_Plain.l0] at h, fun _ _ _ _ _ _ r h => by simp [net_Plain.l1] at h⟩
 | k + 1 => by
  obtain ⟨ih0, ih1⟩ := net_Plain.mono_l k
  refine ⟨?_, ?_⟩ <;> dsimp only [M6] <;> intros <;> (first | unfold net_Plain.l0 | unfold net_Plain.l1) <;> repeat' first | (with_reducible first | apply ih0 | apply ih1 | apply net_valid.mono | apply lr | apply ln | apply li | refine lb ?_ fun _ => ?_)
theorem net_Plain.mono : ∀ a0 a1 a2 k, LeO (net_Plain.f k a0 a1 a2) (net_Plain.f (k + 1) a0 a1 a2) := by
 intro a0 a1 a2 k
 obtain ⟨ih0, ih1⟩ := net_Plain.mono_l k
 unfold net_Plain.f
 repeat' first | (with_reducible first | apply ih0 | apply ih1 | apply net_valid.mono | apply lr | apply ln | apply li | refine lb ?_ fun _ => ?_)
set_option maxHeartbeats 8000000 in
set_option maxRecDepth 100000 in
theorem net_Plain.calls (k : Nat) (a0_0 : ByteArray) (A0_1 : Option Addr) (c0_1 : Nat) (l0_1 : List (S46)) (A0_2 : Option Addr) (c0_2 : Nat) (l0_2 : List (S41)) (r : Bool) (w : World) (hr0_1 : Kd.C k46 w A0_1 l0_1.length l0_1) (hc0_1 : l0_1.length ≤ c0_1) (hr0_2 : Kd.C k41 w A0_2 l0_2.length l0_2) (hc0_2 : l0_2.length ≤ c0_2) (h : net_Plain.f k a0_0 l0_1 l0_2 = some r) :
  Calls Try.prog 62 #[.agg #[.string a0_0, .slice A0_1 l0_1.length c0_1, .slice A0_2 l0_2.length c0_2]] w fun e w' => e = .returned (.bool r) ∧ Below w.heap.size w w' := by
 have hu25 := Try.underlying25
 have hu41 := Try.underlying41
 have hu46 := Try.underlying46
 have HR0_1 := am hr0_1
 have HC0_1 := am hc0_1
 clear hr0_1 hc0_1
 have HR0_2 := am hr0_2
 have HC0_2 := am hc0_2
 clear hr0_2 hc0_2
 have HB := am (Below.refl w.heap.size w)
 have H : (net_Plain.l0 k l0_2 (l0_2.length : Int) 0 a0_0 l0_1 l0_2) = some r := h
 clear h
 have H' := am H
 clear H
 go_enter Try.func62, Try.ntmps62
 go_wp2_with (first | ((with_reducible refine gate_dst (N := 1) rfl ?_); refine box_ev (N := 1) (cs := #[.string a0_0, .slice A0_1 l0_1.length c0_1, .slice A0_2 l0_2.length c0_2]) (t := 25) ?_; intro gb226 hg w2 hbox hb; have BK226 := am hbox; have GW226 := gwl hg; have GE226 := GW226; replace HB := bsl hb; clear hb hbox hg; have z3 := cf3 BK226.1))
 go_loopg [10] k (fun kq v10 w' => ∃ (x10_1 : Int), v10 = .int .i64 x10_1 ∧ Aside0 (net_Plain.l0 kq l0_2 (l0_2.length : Int) x10_1 a0_0 l0_1 l0_2 = some r) ∧ Aside0 (kq ≤ k) ∧ Aside0 (w'.heap[gb226]? = some (.cells #[.string a0_0, (.slice A0_1 l0_1.length c0_1), (.slice A0_2 l0_2.length c0_2)] 25 (0, 0))) ∧ Aside0 (Below w.heap.size w w'))
 case atStart => exact ⟨(0), prs, H', ⟨Nat.le_refl _⟩, ⟨pbk BK226.1⟩, ⟨pbg⟩⟩
 clear H'
 try clear z3
 obtain ⟨x10_1, rfl, HA, HK1, BK226, HB⟩ := hrel
 obtain _ | k1 := gk
 ·exact absurd HA.1 (by simp [net_Plain.l0])
 have H := HA.1
 clear HA
 simp only [net_Plain.l0] at H
 by_cases c4 : x10_1 < (l0_2.length : Int)
 rotate_left
 ·rw [if_neg c4] at H
  have c4b0 : decide (x10_1 < (l0_2.length : Int)) = false := decide_eq_false c4
  clear c4
  have H' := am H
  clear H
  have z18 := cf3 BK226.1
  go_wp2
  go_loopg [27] k1 (fun kq v27 w' => ∃ (x27_2 : Int), v27 = .int .i64 x27_2 ∧ Aside0 (net_Plain.l1 kq l0_1 (l0_1.length : Int) x27_2 a0_0 l0_1 l0_2 = some r) ∧ Aside0 (kq ≤ k1) ∧ Aside0 (w'.heap[gb226]? = some (.cells #[.string a0_0, (.slice A0_1 l0_1.length c0_1), (.slice A0_2 l0_2.length c0_2)] 25 (0, 0))) ∧ Aside0 (Below w.heap.size w w'))
  case atStart => exact ⟨(0), prs, H', ⟨Nat.le_refl _⟩, ⟨pbk BK226.1⟩, ⟨pbg⟩⟩
  clear H'
  try clear c4 c4b0 c5 c5b0 c6 c6b0 c7 c7b0 c7b1 c11 c11b0 c11b1 z10 z14 z17 z18 z3 hx227_0 hx227_1 hx227_2 hx227_3 hx227_4 p227 q227
  obtain ⟨x27_2, rfl, HA, HK2, BK226, HB⟩ := hrel
  obtain _ | k2 := gk
  ·exact absurd HA.1 (by simp [net_Plain.l1])
  have H := HA.1
  clear HA
  simp only [net_Plain.l1] at H
  by_cases c19 : x27_2 < (l0_1.length : Int)
  rotate_left
  ·rw [if_neg c19] at H
   have c19b0 : decide (x27_2 < (l0_1.length : Int)) = false := decide_eq_false c19
   clear c19
   replace H := bnd H
   obtain ⟨t231, A29, H⟩ := H
   (try dsimp only at H)
   obtain rfl := Option.some.inj H
   have z30 := cf3 BK226.1
   go_wp2_with (first | ((with_reducible refine gate_callee (f := 81) rfl ?_); refine gC 36 Try.func81 _ (net_valid.calls k2 a0_0 _ _ l0_1 _ _ l0_2 t231 _ (csb HR0_1 HB) HC0_1.1 (csb HR0_2 HB) HC0_2.1 A29.1) ?_; rintro e w31 ⟨rfl, hb⟩; refine ⟨_, rfl, ?_⟩; replace BK226 := bbh BK226 hb; replace HB := bst hb; (try clear hb)))
   go_ret
   exact ⟨per, pbg⟩
  rw [if_pos c19] at H
  have c19b0 : decide (x27_2 < (l0_1.length : Int)) = true := decide_eq_true c19
  clear c19
  replace H := ifp H
  obtain ⟨c20, H⟩ := H
  have c20b0 := decide_eq_true c20
  clear c20
  replace H := ifp H
  obtain ⟨c21, H⟩ := H
  have c21b0 := decide_eq_true c21
  clear c21
  by_cases c22 : ((rd_T46 l0_1 x27_2).f2) = 0
  rotate_left
  ·rw [if_neg c22] at H
   have c22b0 : (((rd_T46 l0_1 x27_2).f2) == 0) = false := beq_eq_false_iff_ne.mpr c22
   have c22b1 : (((rd_T46 l0_1 x27_2).f2) != 0) = true := bne_iff_ne.mpr c22
   obtain rfl := Option.some.inj H
   obtain ⟨p229, q229, ad229, e229, hx229_0, hx229_1, hx229_2⟩ := bT46 HR0_1.1 HB.1 x27_2
   cases e229
   go_wp2_with (first | ((with_reducible refine gate_dst (N := 6) rfl ?_); refine box_ev (N := 6) (cs := #[.string (⟨#[]⟩ : ByteArray), .int .i64 0, .int .i64 0]) (t := 46) ?_; intro gb230 hg w26 hbox hb; have BK230 := am hbox; have GW230 := gwb hg; have GE230 := GW230; have NB226_230 := nlt hg BK226; have NB230_226 := ngt hg BK226; replace BK226 := bbh BK226 hb; replace HB := bst hb; clear hb hbox hg; have hnb27 := NB230_226.1; have hnc27 := NB226_230.1; have z28 := cf3 BK230.1))
   go_ret
   exact ⟨per, pbg⟩
  rw [if_pos c22] at H
  have c22b0 : (((rd_T46 l0_1 x27_2).f2) == 0) = true := beq_iff_eq.mpr c22
  have c22b1 : (((rd_T46 l0_1 x27_2).f2) != 0) = false := bne_eq_false_iff_eq.mpr c22
  clear c22
  have H' := am H
  clear H
  obtain ⟨p229, q229, ad229, e229, hx229_0, hx229_1, hx229_2⟩ := bT46 HR0_1.1 HB.1 x27_2
  cases e229
  go_wp2_with (first | ((with_reducible refine gate_dst (N := 6) rfl ?_); refine box_ev (N := 6) (cs := #[.string (⟨#[]⟩ : ByteArray), .int .i64 0, .int .i64 0]) (t := 46) ?_; intro gb230 hg w23 hbox hb; have BK230 := am hbox; have GW230 := gwb hg; have GE230 := GW230; have NB226_230 := nlt hg BK226; have NB230_226 := ngt hg BK226; replace BK226 := bbh BK226 hb; replace HB := bst hb; clear hb hbox hg; have hnb24 := NB230_226.1; have hnc24 := NB226_230.1; have z25 := cf3 BK230.1))
  go_roundg k2
  case measure => have := HK1.1; have := HK2.1; omega
  case rel => exact ⟨(wrap64 (x27_2 + 1)), prs, H', ⟨by have := HK1.1; have := HK2.1; omega⟩, ⟨by (with_reducible repeat (first | refine blk_drewN ?_ _ | refine blk_drew ?_ | refine blk_alloc ?_ _)); refine bf3 ?_ NB226_230.1; exact pbk BK226.1⟩, ⟨pbg⟩⟩
 rw [if_pos c4] at H
 have c4b0 : decide (x10_1 < (l0_2.length : Int)) = true := decide_eq_true c4
 clear c4
 replace H := ifp H
 obtain ⟨c5, H⟩ := H
 have c5b0 := decide_eq_true c5
 clear c5
 replace H := ifp H
 obtain ⟨c6, H⟩ := H
 have c6b0 := decide_eq_true c6
 clear c6
 by_cases c7 : (((rd_T41 l0_2 x10_1).f3).length : Int) > 0
 ·rw [if_pos c7] at H
  have c7b0 : decide (0 < (((rd_T41 l0_2 x10_1).f3).length : Int)) = true := decide_eq_true c7
  have c7b1 : decide (0 < ((rd_T41 l0_2 x10_1).f3).length) = true := decide_eq_true (by omega)
  clear c7
  obtain rfl := Option.some.inj H
  obtain ⟨p227, q227, ad227, A227_1, c227_1, A227_2, c227_2, A227_3, c227_3, e227, hx227_0, hx227_1, hx227_2, hx227_3, hx227_4, HC227_1, HR227_1, HC227_2, HR227_2, HC227_3, HR227_3⟩ := bT41 HR0_2.1 HB.1 x10_1
  cases e227
  go_wp2_with (first | ((with_reducible refine gate_dst (N := 4) rfl ?_); refine box_ev (N := 4) (cs := #[.string (⟨#[]⟩ : ByteArray), .slice none 0 0, .slice none 0 0, .slice none 0 0, .int .i64 0]) (t := 41) ?_; intro gb228 hg w8 hbox hb; have BK228 := am hbox; have GW228 := gwb hg; have GE228 := GW228; have NB226_228 := nlt hg BK226; have NB228_226 := ngt hg BK226; replace BK226 := bbh BK226 hb; replace HB := bst hb; clear hb hbox hg; have hnb9 := NB228_226.1; have hnc9 := NB226_228.1; have z10 := cf5 BK228.1))
  go_ret
  exact ⟨per, pbg⟩
 rw [if_neg c7] at H
 have c7b0 : decide (0 < (((rd_T41 l0_2 x10_1).f3).length : Int)) = false := decide_eq_false c7
 have c7b1 : decide (0 < ((rd_T41 l0_2 x10_1).f3).length) = false := decide_eq_false (by omega)
 clear c7
 by_cases c11 : ((rd_T41 l0_2 x10_1).f4) = 0
 rotate_left
 ·rw [if_neg c11] at H
  have c11b0 : (((rd_T41 l0_2 x10_1).f4) == 0) = false := beq_eq_false_iff_ne.mpr c11
  have c11b1 : (((rd_T41 l0_2 x10_1).f4) != 0) = true := bne_iff_ne.mpr c11
  obtain rfl := Option.some.inj H
  obtain ⟨p227, q227, ad227, A227_1, c227_1, A227_2, c227_2, A227_3, c227_3, e227, hx227_0, hx227_1, hx227_2, hx227_3, hx227_4, HC227_1, HR227_1, HC227_2, HR227_2, HC227_3, HR227_3⟩ := bT41 HR0_2.1 HB.1 x10_1
  cases e227
  go_wp2_with (first | ((with_reducible refine gate_dst (N := 4) rfl ?_); refine box_ev (N := 4) (cs := #[.string (⟨#[]⟩ : ByteArray), .slice none 0 0, .slice none 0 0, .slice none 0 0, .int .i64 0]) (t := 41) ?_; intro gb228 hg w15 hbox hb; have BK228 := am hbox; have GW228 := gwb hg; have GE228 := GW228; have NB226_228 := nlt hg BK226; have NB228_226 := ngt hg BK226; replace BK226 := bbh BK226 hb; replace HB := bst hb; clear hb hbox hg; have hnb16 := NB228_226.1; have hnc16 := NB226_228.1; have z17 := cf5 BK228.1))
  go_ret
  exact ⟨per, pbg⟩
 rw [if_pos c11] at H
 have c11b0 : (((rd_T41 l0_2 x10_1).f4) == 0) = true := beq_iff_eq.mpr c11
 have c11b1 : (((rd_T41 l0_2 x10_1).f4) != 0) = false := bne_eq_false_iff_eq.mpr c11
 clear c11
 have H' := am H
 clear H
 obtain ⟨p227, q227, ad227, A227_1, c227_1, A227_2, c227_2, A227_3, c227_3, e227, hx227_0, hx227_1, hx227_2, hx227_3, hx227_4, HC227_1, HR227_1, HC227_2, HR227_2, HC227_3, HR227_3⟩ := bT41 HR0_2.1 HB.1 x10_1
 cases e227
 go_wp2_with (first | ((with_reducible refine gate_dst (N := 4) rfl ?_); refine box_ev (N := 4) (cs := #[.string (⟨#[]⟩ : ByteArray), .slice none 0 0, .slice none 0 0, .slice none 0 0, .int .i64 0]) (t := 41) ?_; intro gb228 hg w12 hbox hb; have BK228 := am hbox; have GW228 := gwb hg; have GE228 := GW228; have NB226_228 := nlt hg BK226; have NB228_226 := ngt hg BK226; replace BK226 := bbh BK226 hb; replace HB := bst hb; clear hb hbox hg; have hnb13 := NB228_226.1; have hnc13 := NB226_228.1; have z14 := cf5 BK228.1))
 go_roundg k1
 case measure => have := HK1.1; omega
 case rel => exact ⟨(wrap64 (x10_1 + 1)), prs, H', ⟨by have := HK1.1; omega⟩, ⟨by (with_reducible repeat (first | refine blk_drewN ?_ _ | refine blk_drew ?_ | refine blk_alloc ?_ _)); refine bf5 ?_ NB226_228.1; exact pbk BK226.1⟩, ⟨pbg⟩⟩

end Go.Proofs.Ytplljicodflagaa.P
