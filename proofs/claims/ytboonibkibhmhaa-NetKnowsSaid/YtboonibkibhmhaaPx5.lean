-- LAID BY OUR PROGRAM OVER THE PRINT (xprint.py): Lean checks it.
import Derived.Test.YtboonibkibhmhaaPx0
import Derived.Laws.RangeString
namespace Go.Proofs.Ytboonibkibhmhaa.P
open Go.RowKit Go.Proofs.YtboonibkibhmhaaW.PrintWords Go.Proofs.YtboonibkibhmhaaW.PrintLast Go.Proofs.YtboonibkibhmhaaW.PrintMore
attribute [local go_sem] max2_int min2_int max_two min_two max_three min_three max_four min_four   -- for this text's walks alone
set_option linter.unusedVariables false
set_option linter.unusedSimpArgs false

/-! ### net_Name: function 41 -/
-- IMPORTS Derived.Laws.RangeString
/-- A byte of a name, at its place. -/
def nameC (i c : Int) : Bool := (decide (97 ≤ c) && decide (c ≤ 122)) || c == 95 || (decide (0 < i) && ((decide (48 ≤ c) && decide (c ≤ 57)) || c == 46))
def nameB (s : ByteArray) : Bool := decide (1 ≤ s.size) && decide (s.size ≤ 16) && (List.range s.size).all fun i => nameC (i : Int) (bt s (i : Int))
def net_Name.f (a0 : ByteArray) : Option Bool := some (nameB a0)
/-- A sign that is no single byte is none of a name. -/
theorem decode_far (s : ByteArray) (pos : Nat) (h : pos < s.size) (ha : ¬ (s[pos]'h).toNat < 128) : ¬ (Utf8.decode s pos).1 < 128 := by
  have e : s.get! (pos + 0) = s[pos]'h := by
    show s.get! pos = _
    simp [ByteArray.get!, getElem!_pos, h]
    rfl
  unfold Utf8.decode
  simp only [e]
  rw [if_neg ha]
  repeat' first | split
  all_goals simp_all [Utf8.runeError]
  all_goals omega
theorem next_some {b pos : Nat} {s : ByteArray} {W : World} (P : Program) (ty : TypeId) (hb : W.heap[b]? = some (.stringIter s pos)) (h : pos < s.size) :
    (Instr.next (.pointer (some ⟨b, 0, none⟩)) true ty).run P W = .ok (.tuple #[.bool true, .int .i64 pos, .int .i32 (Utf8.decode s pos).1]) { W with heap := W.heap.setIfInBounds b (.stringIter s (pos + (Utf8.decode s pos).2)) } := by
  simp [Instr.next, getObj, setObj, Sem.run, hb, h, goInt]
theorem next_none {b pos : Nat} {s : ByteArray} {W : World} (P : Program) (ty : TypeId) (hb : W.heap[b]? = some (.stringIter s pos)) (h : ¬ pos < s.size) :
    (Instr.next (.pointer (some ⟨b, 0, none⟩)) true ty).run P W = .ok (.tuple #[.bool false]) W := by
  simp [Instr.next, getObj, Sem.run, hb, h]
theorem iter_step {w wr w2 : World} {b pos pos' : Nat} {s : ByteArray} (hb : wr.heap[b]? = some (.stringIter s pos)) (hB : Below w.heap.size w wr) (hn : w.heap.size ≤ b) (h : w2 = { wr with heap := wr.heap.setIfInBounds b (.stringIter s pos') }) :
    w2.heap[b]? = some (.stringIter s pos') ∧ Below w.heap.size w w2 := by
  subst h
  refine ⟨?_, hB.os, hB.tape, hB.output, by simpa using hB.size, fun k hk => ?_⟩
  · obtain ⟨h1, h2⟩ := Array.getElem?_eq_some_iff.mp hb
    simp [Array.getElem?_setIfInBounds, h1]
  · rw [← hB.block k hk]
    show (wr.heap.setIfInBounds b _)[k]? = _
    rw [Array.getElem?_setIfInBounds, if_neg (by omega)]
theorem nameB_no {s : ByteArray} {i : Nat} (hi : i < s.size) (h : nameC (i : Int) (bt s (i : Int)) = false) : nameB s = false := by
  unfold nameB
  rw [Bool.and_eq_false_iff]
  refine .inr (Bool.eq_false_iff.2 fun e => ?_)
  have := List.all_eq_true.1 e i (List.mem_range.2 hi)
  rw [h] at this
  cases this
theorem nameB_yes {s : ByteArray} (h1 : 1 ≤ s.size) (h2 : s.size ≤ 16) (h : ∀ i, i < s.size → nameC (i : Int) (bt s (i : Int)) = true) : nameB s = true := by
  unfold nameB
  rw [decide_eq_true h1, decide_eq_true h2, Bool.true_and, Bool.true_and]
  exact List.all_eq_true.2 fun i hi => h i (List.mem_range.1 hi)
/-- The sign at a place: its first byte if that is a sign, and none of a name otherwise. -/
theorem sign_at (s : ByteArray) (pos : Nat) (h : pos < s.size) (i : Int) : nameC i ((Utf8.decode s pos).1 : Int) = nameC i (bt s (pos : Int)) ∧ (nameC i ((Utf8.decode s pos).1 : Int) = true → (Utf8.decode s pos).2 = 1) := by
  have hb : bt s (pos : Int) = ((s[pos]'h).toNat : Int) := by unfold bt; rw [dif_pos (by simpa using h)]; simp
  by_cases ha : (s[pos]'h).toNat < 128
  · rw [decode_ascii s pos h ha]
    exact ⟨by rw [hb], fun _ => rfl⟩
  · have hf := decode_far s pos h ha
    have no : ∀ c : Int, ¬ c < 128 → nameC i c = false := fun c hc => by
      unfold nameC
      rw [decide_eq_false (show ¬ c ≤ 122 by omega), decide_eq_false (show ¬ c ≤ 57 by omega), beq_eq_false_iff_ne.2 (show c ≠ 95 by omega), beq_eq_false_iff_ne.2 (show c ≠ 46 by omega)]
      simp
    rw [no _ (by omega), no (bt s (pos : Int)) (by rw [hb]; omega)]
    exact ⟨rfl, fun h => by cases h⟩

set_option maxHeartbeats 4000000 in
set_option maxRecDepth 100000 in
theorem net_Name.calls (a0 : ByteArray) (r : Bool) (w : World) (h : net_Name.f a0 = some r) :
    Calls Try.prog 41 #[.string a0] w fun e w' => e = .returned (.bool r) ∧ Below w.heap.size w w' := by
  have hr : nameB a0 = r := Option.some.inj h
  have HR := Aside0.mk hr
  clear h hr
  by_cases c1 : (a0.size : Int) < 1
  · have hf : nameB a0 = false := by unfold nameB; rw [decide_eq_false (by omega)]; rfl
    have c1b : decide ((a0.size : Int) < 1) = true := decide_eq_true c1
    have c1c : decide (a0.size < 1) = true := decide_eq_true (by omega)
    have HR2 := Aside0.mk (HR.out.symm.trans hf)
    clear hf HR c1
    go_enter Try.func41, Try.ntmps41
    go_wp2
    go_ret
    have e_ := HR2.out
    subst e_
    exact ⟨rfl, Below.refl _ _⟩
  · have c1b : decide ((a0.size : Int) < 1) = false := decide_eq_false c1
    have c1c : decide (a0.size < 1) = false := decide_eq_false (by omega)
    by_cases c2 : (16 : Int) < (a0.size : Int)
    · have hf : nameB a0 = false := by unfold nameB; rw [decide_eq_false (show ¬ a0.size ≤ 16 by omega)]; simp
      have c2b : decide ((16 : Int) < (a0.size : Int)) = true := decide_eq_true c2
      have c2c : decide (16 < a0.size) = true := decide_eq_true (by omega)
      have HR2 := Aside0.mk (HR.out.symm.trans hf)
      clear hf HR c1 c2
      go_enter Try.func41, Try.ntmps41
      go_wp2
      go_ret
      have e_ := HR2.out
      subst e_
      exact ⟨rfl, Below.refl _ _⟩
    · have c2b : decide ((16 : Int) < (a0.size : Int)) = false := decide_eq_false c2
      have c2c : decide (16 < a0.size) = false := decide_eq_false (by omega)
      have S1 := Aside0.mk (show 1 ≤ a0.size by omega)
      have S2 := Aside0.mk (show a0.size ≤ 16 by omega)
      clear c1 c2
      go_enter Try.func41, Try.ntmps41
      go_wp2
      have HI := Aside0.mk (show (w.iter a0 0).heap[w.heap.size]? = some (.stringIter a0 0) from World.iter_heap w a0 0)
      have HB := Aside0.mk (show Below w.heap.size w (w.iter a0 0) from below_alloc (Below.refl _ _) _)
      go_loopg [3] a0.size (fun kq v3 w' => ∃ pos : Nat, Aside0 (kq = a0.size - pos) ∧ Aside0 (w'.heap[w.heap.size]? = some (.stringIter a0 pos)) ∧ Aside0 (∀ i, i < pos → nameC (i : Int) (bt a0 (i : Int)) = true) ∧ Aside0 (Below w.heap.size w w'))
      case atStart => exact ⟨0, ⟨rfl⟩, HI, ⟨fun i hi => absurd hi (Nat.not_lt_zero _)⟩, HB⟩
      case round =>
        clear HI HB
        obtain ⟨pos, HK, HI, HO, HB⟩ := hrel
        by_cases d1 : pos < a0.size
        case neg =>
          have hnx := fun ty => next_none Try.prog ty HI.out d1
          have HR2 := Aside0.mk (HR.out.symm.trans (nameB_yes S1.out S2.out (fun i hi => HO.out i (by omega))))
          clear d1
          go_wp2
          go_ret
          have e_ := HR2.out
          subst e_
          exact ⟨rfl, HB.out⟩
        have hnx0 := fun ty => next_some Try.prog ty HI.out d1
        obtain ⟨sg1, sg2⟩ := sign_at a0 pos d1 (pos : Int)
        obtain ⟨w2, hw2⟩ : ∃ w2 : World, w2 = { wr with heap := wr.heap.setIfInBounds w.heap.size (.stringIter a0 (pos + (Utf8.decode a0 pos).2)) } := ⟨_, rfl⟩
        have hit := iter_step HI.out HB.out (Nat.le_refl _) hw2
        obtain ⟨c, hc⟩ : ∃ c : Int, c = ((Utf8.decode a0 pos).1 : Int) := ⟨_, rfl⟩
        have hnx : ∀ ty, (Instr.next (.pointer (some ⟨w.heap.size, 0, none⟩)) true ty).run Try.prog wr = .ok (.tuple #[.bool true, .int .i64 pos, .int .i32 c]) w2 := fun ty => by rw [hw2, hc]; exact hnx0 ty
        rw [← hc] at sg1 sg2
        have SG1 := Aside0.mk sg1
        have SG2 := Aside0.mk sg2
        have HIT := Aside0.mk hit
        have D1 := Aside0.mk d1
        clear sg1 sg2 hit hnx0 hc hw2 d1
        cases e1 : decide (97 ≤ c) with
        | true =>
          cases e2 : decide (c ≤ 122) with
          | true =>
            have OK := Aside0.mk (show nameC (pos : Int) c = true by unfold nameC; rw [e1, e2]; rfl)
            go_wp2
            go_roundg (a0.size - (pos + 1))
            case measure => have := HK.out; have := D1.out; omega
            case rel =>
              have h1 := HIT.out.1
              rw [SG2.out OK.out] at h1
              refine ⟨pos + 1, ⟨rfl⟩, ⟨h1⟩, ⟨fun i hi => ?_⟩, ⟨HIT.out.2⟩⟩
              by_cases e : i = pos
              · subst e; exact SG1.out.symm.trans OK.out
              · exact HO.out i (by omega)
          | false =>
            cases e3 : (c == 95) with
            | true =>
              have OK := Aside0.mk (show nameC (pos : Int) c = true by unfold nameC; rw [e1, e2, e3]; rfl)
              go_wp2
              go_roundg (a0.size - (pos + 1))
              case measure => have := HK.out; have := D1.out; omega
              case rel =>
                have h1 := HIT.out.1
                rw [SG2.out OK.out] at h1
                refine ⟨pos + 1, ⟨rfl⟩, ⟨h1⟩, ⟨fun i hi => ?_⟩, ⟨HIT.out.2⟩⟩
                by_cases e : i = pos
                · subst e; exact SG1.out.symm.trans OK.out
                · exact HO.out i (by omega)
            | false =>
              cases e4 : decide (0 < (pos : Int)) with
              | true =>
                have e4n : decide (0 < pos) = true := (decide_eq_decide.2 (by omega)).trans e4
                cases e5 : decide (48 ≤ c) with
                | true =>
                  cases e6 : decide (c ≤ 57) with
                  | true =>
                    have OK := Aside0.mk (show nameC (pos : Int) c = true by unfold nameC; rw [e1, e2, e3, e4, e5, e6]; rfl)
                    go_wp2
                    go_roundg (a0.size - (pos + 1))
                    case measure => have := HK.out; have := D1.out; omega
                    case rel =>
                      have h1 := HIT.out.1
                      rw [SG2.out OK.out] at h1
                      refine ⟨pos + 1, ⟨rfl⟩, ⟨h1⟩, ⟨fun i hi => ?_⟩, ⟨HIT.out.2⟩⟩
                      by_cases e : i = pos
                      · subst e; exact SG1.out.symm.trans OK.out
                      · exact HO.out i (by omega)
                  | false =>
                    cases e7 : (c == 46) with
                    | true =>
                      have OK := Aside0.mk (show nameC (pos : Int) c = true by unfold nameC; rw [e1, e2, e3, e4, e5, e6, e7]; rfl)
                      go_wp2
                      go_roundg (a0.size - (pos + 1))
                      case measure => have := HK.out; have := D1.out; omega
                      case rel =>
                        have h1 := HIT.out.1
                        rw [SG2.out OK.out] at h1
                        refine ⟨pos + 1, ⟨rfl⟩, ⟨h1⟩, ⟨fun i hi => ?_⟩, ⟨HIT.out.2⟩⟩
                        by_cases e : i = pos
                        · subst e; exact SG1.out.symm.trans OK.out
                        · exact HO.out i (by omega)
                    | false =>
                      have HR2 := Aside0.mk (HR.out.symm.trans (nameB_no D1.out (SG1.out.symm.trans (show nameC (pos : Int) c = false by unfold nameC; rw [e1, e2, e3, e4, e5, e6, e7]; rfl))))
                      go_wp2
                      go_ret
                      have e_ := HR2.out
                      subst e_
                      exact ⟨rfl, HIT.out.2⟩
                | false =>
                  cases e7 : (c == 46) with
                  | true =>
                    have OK := Aside0.mk (show nameC (pos : Int) c = true by unfold nameC; rw [e1, e2, e3, e4, e5, e7]; rfl)
                    go_wp2
                    go_roundg (a0.size - (pos + 1))
                    case measure => have := HK.out; have := D1.out; omega
                    case rel =>
                      have h1 := HIT.out.1
                      rw [SG2.out OK.out] at h1
                      refine ⟨pos + 1, ⟨rfl⟩, ⟨h1⟩, ⟨fun i hi => ?_⟩, ⟨HIT.out.2⟩⟩
                      by_cases e : i = pos
                      · subst e; exact SG1.out.symm.trans OK.out
                      · exact HO.out i (by omega)
                  | false =>
                    have HR2 := Aside0.mk (HR.out.symm.trans (nameB_no D1.out (SG1.out.symm.trans (show nameC (pos : Int) c = false by unfold nameC; rw [e1, e2, e3, e4, e5, e7]; rfl))))
                    go_wp2
                    go_ret
                    have e_ := HR2.out
                    subst e_
                    exact ⟨rfl, HIT.out.2⟩
              | false =>
                have e4n : decide (0 < pos) = false := (decide_eq_decide.2 (by omega)).trans e4
                have HR2 := Aside0.mk (HR.out.symm.trans (nameB_no D1.out (SG1.out.symm.trans (show nameC (pos : Int) c = false by unfold nameC; rw [e1, e2, e3, e4]; rfl))))
                go_wp2
                go_ret
                have e_ := HR2.out
                subst e_
                exact ⟨rfl, HIT.out.2⟩
        | false =>
          cases e3 : (c == 95) with
          | true =>
            have OK := Aside0.mk (show nameC (pos : Int) c = true by unfold nameC; rw [e1, e3]; rfl)
            go_wp2
            go_roundg (a0.size - (pos + 1))
            case measure => have := HK.out; have := D1.out; omega
            case rel =>
              have h1 := HIT.out.1
              rw [SG2.out OK.out] at h1
              refine ⟨pos + 1, ⟨rfl⟩, ⟨h1⟩, ⟨fun i hi => ?_⟩, ⟨HIT.out.2⟩⟩
              by_cases e : i = pos
              · subst e; exact SG1.out.symm.trans OK.out
              · exact HO.out i (by omega)
          | false =>
            cases e4 : decide (0 < (pos : Int)) with
            | true =>
              have e4n : decide (0 < pos) = true := (decide_eq_decide.2 (by omega)).trans e4
              cases e5 : decide (48 ≤ c) with
              | true =>
                cases e6 : decide (c ≤ 57) with
                | true =>
                  have OK := Aside0.mk (show nameC (pos : Int) c = true by unfold nameC; rw [e1, e3, e4, e5, e6]; rfl)
                  go_wp2
                  go_roundg (a0.size - (pos + 1))
                  case measure => have := HK.out; have := D1.out; omega
                  case rel =>
                    have h1 := HIT.out.1
                    rw [SG2.out OK.out] at h1
                    refine ⟨pos + 1, ⟨rfl⟩, ⟨h1⟩, ⟨fun i hi => ?_⟩, ⟨HIT.out.2⟩⟩
                    by_cases e : i = pos
                    · subst e; exact SG1.out.symm.trans OK.out
                    · exact HO.out i (by omega)
                | false =>
                  cases e7 : (c == 46) with
                  | true =>
                    have OK := Aside0.mk (show nameC (pos : Int) c = true by unfold nameC; rw [e1, e3, e4, e5, e6, e7]; rfl)
                    go_wp2
                    go_roundg (a0.size - (pos + 1))
                    case measure => have := HK.out; have := D1.out; omega
                    case rel =>
                      have h1 := HIT.out.1
                      rw [SG2.out OK.out] at h1
                      refine ⟨pos + 1, ⟨rfl⟩, ⟨h1⟩, ⟨fun i hi => ?_⟩, ⟨HIT.out.2⟩⟩
                      by_cases e : i = pos
                      · subst e; exact SG1.out.symm.trans OK.out
                      · exact HO.out i (by omega)
                  | false =>
                    have HR2 := Aside0.mk (HR.out.symm.trans (nameB_no D1.out (SG1.out.symm.trans (show nameC (pos : Int) c = false by unfold nameC; rw [e1, e3, e4, e5, e6, e7]; rfl))))
                    go_wp2
                    go_ret
                    have e_ := HR2.out
                    subst e_
                    exact ⟨rfl, HIT.out.2⟩
              | false =>
                cases e7 : (c == 46) with
                | true =>
                  have OK := Aside0.mk (show nameC (pos : Int) c = true by unfold nameC; rw [e1, e3, e4, e5, e7]; rfl)
                  go_wp2
                  go_roundg (a0.size - (pos + 1))
                  case measure => have := HK.out; have := D1.out; omega
                  case rel =>
                    have h1 := HIT.out.1
                    rw [SG2.out OK.out] at h1
                    refine ⟨pos + 1, ⟨rfl⟩, ⟨h1⟩, ⟨fun i hi => ?_⟩, ⟨HIT.out.2⟩⟩
                    by_cases e : i = pos
                    · subst e; exact SG1.out.symm.trans OK.out
                    · exact HO.out i (by omega)
                | false =>
                  have HR2 := Aside0.mk (HR.out.symm.trans (nameB_no D1.out (SG1.out.symm.trans (show nameC (pos : Int) c = false by unfold nameC; rw [e1, e3, e4, e5, e7]; rfl))))
                  go_wp2
                  go_ret
                  have e_ := HR2.out
                  subst e_
                  exact ⟨rfl, HIT.out.2⟩
            | false =>
              have e4n : decide (0 < pos) = false := (decide_eq_decide.2 (by omega)).trans e4
              have HR2 := Aside0.mk (HR.out.symm.trans (nameB_no D1.out (SG1.out.symm.trans (show nameC (pos : Int) c = false by unfold nameC; rw [e1, e3, e4]; rfl))))
              go_wp2
              go_ret
              have e_ := HR2.out
              subst e_
              exact ⟨rfl, HIT.out.2⟩

end Go.Proofs.Ytboonibkibhmhaa.P
