-- LAID BY OUR PROGRAM OVER THE PRINT (xprint.py, part.py): Lean checks it.
import Derived.Test.YtplljicodflagaaPx0
import Derived.Test.YtplljicodflagaaPx1
import Derived.Test.YtplljicodflagaaPx3
import Derived.Test.YtplljicodflagaaPx5
import Derived.Test.YtplljicodflagaaPx9
import Derived.Test.YtplljicodflagaaPx11
namespace Go.Proofs.Ytplljicodflagaa.P
open Go.RowKit Go.Proofs.YtplljicodflagaaW.PrintWords Go.Proofs.YtplljicodflagaaW.PrintLast Go.Proofs.YtplljicodflagaaW.PrintMore
attribute [local go_sem] max2_int min2_int max_two min_two max_three min_three max_four min_four   -- for this text's walks alone
set_option linter.unusedVariables false
set_option linter.unusedSimpArgs false

/-! ### r13_Words: function 30 -/
def r13_Words.l0 : Nat → List ByteArray → List Bool → List ByteArray → Int → Option (List ByteArray)
 | 0, _, _, _, _ => none
 | k + 1, x3, x4, x5, x6 => if x6 < (x3.length : Int) then (if 0 ≤ x6 then (if x6 < (x4.length : Int) then (if rdOf false x4 x6 = true then (if x5.length < 8796093022208 then (r13_Words.l0 k x3 x4 (x5 ++ [rdOf ByteArray.empty x3 x6]) (wrap64 (x6 + 1))) else (none)) else (r13_Words.l0 k x3 x4 x5 (wrap64 (x6 + 1)))) else (none)) else (none)) else (some x5)
def r13_Words.f (k : Nat) (a0_0 : ByteArray) (l0_1 : List (S46)) (l0_2 : List (S41)) : Option (List ByteArray) := (r09_Valid.f k a0_0 l0_1 l0_2).bind fun t571 => (if t571 = true then ((r09_Plain.f k a0_0 l0_1 l0_2).bind fun t575 => ((r09_Ordinary.f k a0_0 l0_1 l0_2).bind fun t576 => ((r13_Pure.f k a0_0 l0_1 l0_2).bind fun t577 => ((r13_Connected.f k a0_0 l0_1 l0_2).bind fun t578 => ((r13_Strong.f k a0_0 l0_1 l0_2).bind fun t579 => ((r13_StateMachine.f k a0_0 l0_1 l0_2).bind fun t580 => ((r13_MarkedGraph.f k a0_0 l0_1 l0_2).bind fun t581 => ((r13_FreeChoice.f k a0_0 l0_1 l0_2).bind fun t582 => ((r13_Asymmetric.f k a0_0 l0_1 l0_2).bind fun t583 => (r13_Words.l0 k (([(⟨#[112, 108, 97, 105, 110]⟩ : ByteArray), (⟨#[111, 114, 100, 105, 110, 97, 114, 121]⟩ : ByteArray), (⟨#[112, 117, 114, 101]⟩ : ByteArray), (⟨#[99, 111, 110, 110, 101, 99, 116, 101, 100]⟩ : ByteArray), (⟨#[115, 116, 114, 111, 110, 103]⟩ : ByteArray), (⟨#[115, 116, 97, 116, 101, 109, 97, 99, 104, 105, 110, 101]⟩ : ByteArray), (⟨#[109, 97, 114, 107, 101, 100, 103, 114, 97, 112, 104]⟩ : ByteArray), (⟨#[102, 114, 101, 101, 99, 104, 111, 105, 99, 101]⟩ : ByteArray), (⟨#[97, 115, 121, 109, 109, 101, 116, 114, 105, 99]⟩ : ByteArray)] : List ByteArray)) (([t575, t576, t577, t578, t579, t580, t581, t582, t583] : List Bool)) ([] : List ByteArray) 0)))))))))) else (some ([] : List ByteArray)))
theorem r13_Words.mono_l : ∀ k, M4 r13_Words.l0 k
 | 0 => fun _ _ _ _ r h => by simp [r13_Words.l0] at h
 | k + 1 => by
  have ih0 := r13_Words.mono_l k
  ·intro y0 y1 y2 y3
   unfold r13_Words.l0
   repeat' first | (with_reducible first | apply ih0 | apply r09_Ordinary.mono | apply r09_Plain.mono | apply r09_Valid.mono | apply r13_Asymmetric.mono | apply r13_Connected.mono | apply r13_FreeChoice.mono | apply r13_MarkedGraph.mono | apply r13_Pure.mono | apply r13_StateMachine.mono | apply r13_Strong.mono | apply lr | apply ln | apply li | refine lb ?_ fun _ => ?_)
theorem r13_Words.mono : ∀ a0 a1 a2 k, LeO (r13_Words.f k a0 a1 a2) (r13_Words.f (k + 1) a0 a1 a2) := by
 intro a0 a1 a2 k
 have ih0 := r13_Words.mono_l k
 unfold r13_Words.f
 repeat' first | (with_reducible first | apply ih0 | apply r09_Ordinary.mono | apply r09_Plain.mono | apply r09_Valid.mono | apply r13_Asymmetric.mono | apply r13_Connected.mono | apply r13_FreeChoice.mono | apply r13_MarkedGraph.mono | apply r13_Pure.mono | apply r13_StateMachine.mono | apply r13_Strong.mono | apply lr | apply ln | apply li | refine lb ?_ fun _ => ?_)
def r13_Words.T4 : Bool × List (List Nat × List Nat) := (true, [([], []), ([0], [0]), ([], []), ([2, 1], [2]), ([], []), ([4, 3], [4]), ([], []), ([6, 5], [6]), ([], []), ([8, 7], [8]), ([], []), ([10, 9], [10]), ([], []), ([12, 11], [12]), ([], []), ([14, 13], [14]), ([], []), ([16, 15], [16]), ([1, 3, 5, 7, 9, 11, 13, 15, 17], [1, 3, 5, 7, 9, 11, 13, 15, 17]), ([18, 17, 0, 1, 2, 3, 4, 5, 6, 7, 8, 9, 10, 11, 12, 13, 14, 15, 16, 17, 18], [18])])
def r13_Words.B4 : List Nat := [0, 1, 0, 7, 0, 31, 0, 127, 0, 511, 0, 2047, 0, 8191, 0, 32767, 0, 131071, 262143, 524287]
theorem r13_Words.tab4 : rtab .any (opsOf Try.f30 4) = r13_Words.T4 := by kernel_rfl
theorem r13_Words.bits4 : waitsOk r13_Words.T4.2 r13_Words.B4 = true := by kernel_rfl
set_option maxHeartbeats 8000000 in
set_option maxRecDepth 100000 in
theorem r13_Words.calls (k : Nat) (a0_0 : ByteArray) (A0_1 : Option Addr) (c0_1 : Nat) (l0_1 : List (S46)) (A0_2 : Option Addr) (c0_2 : Nat) (l0_2 : List (S41)) (r : List ByteArray) (w : World) (hr0_1 : Kd.C k46 w A0_1 l0_1.length l0_1) (hc0_1 : l0_1.length ≤ c0_1) (hr0_2 : Kd.C k41 w A0_2 l0_2.length l0_2) (hc0_2 : l0_2.length ≤ c0_2) (h : r13_Words.f k a0_0 l0_1 l0_2 = some r) :
  Calls Try.prog 30 #[.agg #[.string a0_0, .slice A0_1 l0_1.length c0_1, .slice A0_2 l0_2.length c0_2]] w fun e w' => ∃ v0_ : Value, e = .returned (v0_) ∧ Kd.R Kd.string 9 w' w.heap.size (fun _ => True) v0_ r ∧ Below w.heap.size w w' := by
 have hu25 := Try.underlying25
 have HR0_1 := am hr0_1
 have HC0_1 := am hc0_1
 clear hr0_1 hc0_1
 have HR0_2 := am hr0_2
 have HC0_2 := am hc0_2
 clear hr0_2 hc0_2
 have HB := am (Below.refl w.heap.size w)
 have H : ((r09_Valid.f k a0_0 l0_1 l0_2).bind fun t571 => (if t571 = true then ((r09_Plain.f k a0_0 l0_1 l0_2).bind fun t575 => ((r09_Ordinary.f k a0_0 l0_1 l0_2).bind fun t576 => ((r13_Pure.f k a0_0 l0_1 l0_2).bind fun t577 => ((r13_Connected.f k a0_0 l0_1 l0_2).bind fun t578 => ((r13_Strong.f k a0_0 l0_1 l0_2).bind fun t579 => ((r13_StateMachine.f k a0_0 l0_1 l0_2).bind fun t580 => ((r13_MarkedGraph.f k a0_0 l0_1 l0_2).bind fun t581 => ((r13_FreeChoice.f k a0_0 l0_1 l0_2).bind fun t582 => ((r13_Asymmetric.f k a0_0 l0_1 l0_2).bind fun t583 => (r13_Words.l0 k (([(⟨#[112, 108, 97, 105, 110]⟩ : ByteArray), (⟨#[111, 114, 100, 105, 110, 97, 114, 121]⟩ : ByteArray), (⟨#[112, 117, 114, 101]⟩ : ByteArray), (⟨#[99, 111, 110, 110, 101, 99, 116, 101, 100]⟩ : ByteArray), (⟨#[115, 116, 114, 111, 110, 103]⟩ : ByteArray), (⟨#[115, 116, 97, 116, 101, 109, 97, 99, 104, 105, 110, 101]⟩ : ByteArray), (⟨#[109, 97, 114, 107, 101, 100, 103, 114, 97, 112, 104]⟩ : ByteArray), (⟨#[102, 114, 101, 101, 99, 104, 111, 105, 99, 101]⟩ : ByteArray), (⟨#[97, 115, 121, 109, 109, 101, 116, 114, 105, 99]⟩ : ByteArray)] : List ByteArray)) (([t575, t576, t577, t578, t579, t580, t581, t582, t583] : List Bool)) ([] : List ByteArray) 0)))))))))) else (some ([] : List ByteArray)))) = some r := h
 clear h
 replace H := bnd H
 obtain ⟨t571, A2, H⟩ := H
 (try dsimp only at H)
 by_cases c3 : t571 = true
 rotate_left
 ·replace c3 := Bool.eq_false_iff.mpr c3
  subst c3
  rw [if_neg Bool.false_ne_true] at H
  obtain rfl := Option.some.inj H
  go_enter Try.func30, Try.ntmps30
  go_wp2_with (first | ((with_reducible refine gate_dst (N := 1) rfl ?_); refine box_ev (N := 1) (cs := #[.string a0_0, .slice A0_1 l0_1.length c0_1, .slice A0_2 l0_2.length c0_2]) (t := 25) ?_; intro gb570 hg w42 hbox hb; have BK570 := am hbox; have GW570 := gwl hg; have GE570 := GW570; replace HB := bsl hb; clear hb hbox hg; have z43 := cf3 BK570.1) | ((with_reducible refine gate_callee (f := 34) rfl ?_); refine gC 8 Try.func34 _ (r09_Valid.calls k a0_0 _ _ l0_1 _ _ l0_2 false _ (csb HR0_1 HB) HC0_1.1 (csb HR0_2 HB) HC0_2.1 A2.1) ?_; rintro e w44 ⟨rfl, hb⟩; refine ⟨_, rfl, ?_⟩; replace BK570 := bbh BK570 hb; replace HB := bst hb; (try clear hb)))
  go_ret
  exact ⟨_, per, knl, pbg⟩
 subst c3
 rw [if_pos rfl] at H
 obtain ⟨y572, hy572⟩ : ∃ y_ : List ByteArray, y_ = (([(⟨#[112, 108, 97, 105, 110]⟩ : ByteArray), (⟨#[111, 114, 100, 105, 110, 97, 114, 121]⟩ : ByteArray), (⟨#[112, 117, 114, 101]⟩ : ByteArray), (⟨#[99, 111, 110, 110, 101, 99, 116, 101, 100]⟩ : ByteArray), (⟨#[115, 116, 114, 111, 110, 103]⟩ : ByteArray), (⟨#[115, 116, 97, 116, 101, 109, 97, 99, 104, 105, 110, 101]⟩ : ByteArray), (⟨#[109, 97, 114, 107, 101, 100, 103, 114, 97, 112, 104]⟩ : ByteArray), (⟨#[102, 114, 101, 101, 99, 104, 111, 105, 99, 101]⟩ : ByteArray), (⟨#[97, 115, 121, 109, 109, 101, 116, 114, 105, 99]⟩ : ByteArray)] : List ByteArray)) := ⟨_, rfl⟩
 replace H : ((r09_Plain.f k a0_0 l0_1 l0_2).bind fun t575 => ((r09_Ordinary.f k a0_0 l0_1 l0_2).bind fun t576 => ((r13_Pure.f k a0_0 l0_1 l0_2).bind fun t577 => ((r13_Connected.f k a0_0 l0_1 l0_2).bind fun t578 => ((r13_Strong.f k a0_0 l0_1 l0_2).bind fun t579 => ((r13_StateMachine.f k a0_0 l0_1 l0_2).bind fun t580 => ((r13_MarkedGraph.f k a0_0 l0_1 l0_2).bind fun t581 => ((r13_FreeChoice.f k a0_0 l0_1 l0_2).bind fun t582 => ((r13_Asymmetric.f k a0_0 l0_1 l0_2).bind fun t583 => (r13_Words.l0 k y572 (([t575, t576, t577, t578, t579, t580, t581, t582, t583] : List Bool)) ([] : List ByteArray) 0)))))))))) = some r := hrp hy572 H
 have Ny572 := am hy572
 clear hy572
 replace H := bnd H
 obtain ⟨t575, A4, H⟩ := H
 (try dsimp only at H)
 replace H := bnd H
 obtain ⟨t576, A5, H⟩ := H
 (try dsimp only at H)
 replace H := bnd H
 obtain ⟨t577, A6, H⟩ := H
 (try dsimp only at H)
 replace H := bnd H
 obtain ⟨t578, A7, H⟩ := H
 (try dsimp only at H)
 replace H := bnd H
 obtain ⟨t579, A8, H⟩ := H
 (try dsimp only at H)
 replace H := bnd H
 obtain ⟨t580, A9, H⟩ := H
 (try dsimp only at H)
 replace H := bnd H
 obtain ⟨t581, A10, H⟩ := H
 (try dsimp only at H)
 replace H := bnd H
 obtain ⟨t582, A11, H⟩ := H
 (try dsimp only at H)
 replace H := bnd H
 obtain ⟨t583, A12, H⟩ := H
 (try dsimp only at H)
 obtain ⟨y584, hy584⟩ : ∃ y_ : List Bool, y_ = (([t575, t576, t577, t578, t579, t580, t581, t582, t583] : List Bool)) := ⟨_, rfl⟩
 replace H : (r13_Words.l0 k y572 y584 ([] : List ByteArray) 0) = some r := hrp hy584 H
 have Ny584 := am hy584
 clear hy584
 have H' := am H
 clear H
 go_enter Try.func30, Try.ntmps30
 try go_wp2_with (first | ((with_reducible refine gate_dst (N := 1) rfl ?_); refine box_ev (N := 1) (cs := #[.string a0_0, .slice A0_1 l0_1.length c0_1, .slice A0_2 l0_2.length c0_2]) (t := 25) ?_; intro gb570 hg w13 hbox hb; have BK570 := am hbox; have GW570 := gwl hg; have GE570 := GW570; replace HB := bsl hb; clear hb hbox hg; have z14 := cf3 BK570.1) | ((with_reducible refine gate_callee (f := 34) rfl ?_); refine gC 8 Try.func34 _ (r09_Valid.calls k a0_0 _ _ l0_1 _ _ l0_2 true _ (csb HR0_1 HB) HC0_1.1 (csb HR0_2 HB) HC0_2.1 A2.1) ?_; rintro e w15 ⟨rfl, hb⟩; refine ⟨_, rfl, ?_⟩; replace BK570 := bbh BK570 hb; replace HB := bst hb; (try clear hb)) | ((with_reducible refine gate_dst (N := 10) rfl ?_); refine Kd.R_lit Kd.string _ 9 ?hg (N := 10) ?hd (xs := ([(⟨#[112, 108, 97, 105, 110]⟩ : ByteArray), (⟨#[111, 114, 100, 105, 110, 97, 114, 121]⟩ : ByteArray), (⟨#[112, 117, 114, 101]⟩ : ByteArray), (⟨#[99, 111, 110, 110, 101, 99, 116, 101, 100]⟩ : ByteArray), (⟨#[115, 116, 114, 111, 110, 103]⟩ : ByteArray), (⟨#[115, 116, 97, 116, 101, 109, 97, 99, 104, 105, 110, 101]⟩ : ByteArray), (⟨#[109, 97, 114, 107, 101, 100, 103, 114, 97, 112, 104]⟩ : ByteArray), (⟨#[102, 114, 101, 101, 99, 104, 111, 105, 99, 101]⟩ : ByteArray), (⟨#[97, 115, 121, 109, 109, 101, 116, 114, 105, 99]⟩ : ByteArray)] : List ByteArray)) (inner := [.string (⟨#[112, 108, 97, 105, 110]⟩ : ByteArray), .string (⟨#[111, 114, 100, 105, 110, 97, 114, 121]⟩ : ByteArray), .string (⟨#[112, 117, 114, 101]⟩ : ByteArray), .string (⟨#[99, 111, 110, 110, 101, 99, 116, 101, 100]⟩ : ByteArray), .string (⟨#[115, 116, 114, 111, 110, 103]⟩ : ByteArray), .string (⟨#[115, 116, 97, 116, 101, 109, 97, 99, 104, 105, 110, 101]⟩ : ByteArray), .string (⟨#[109, 97, 114, 107, 101, 100, 103, 114, 97, 112, 104]⟩ : ByteArray), .string (⟨#[102, 114, 101, 101, 99, 104, 111, 105, 99, 101]⟩ : ByteArray), .string (⟨#[97, 115, 121, 109, 109, 101, 116, 114, 105, 99]⟩ : ByteArray)]) (ok := fun _ => True) (okp := fun _ => True) ?hr ?hp (fun _ hk => hk) trivial (Below.refl _ _) (Nat.le_refl _) (by simp) ?_; (case hd => rfl); (case hg => rfl); (case hr => first | (go_simp; done) | (go_simp; rfl)); (case hp => exact (Reps.one (show Kd.M Kd.string _ _ _ (⟨#[112, 108, 97, 105, 110]⟩ : ByteArray) [.string (⟨#[112, 108, 97, 105, 110]⟩ : ByteArray)] from rfl) (Reps.one (show Kd.M Kd.string _ _ _ (⟨#[111, 114, 100, 105, 110, 97, 114, 121]⟩ : ByteArray) [.string (⟨#[111, 114, 100, 105, 110, 97, 114, 121]⟩ : ByteArray)] from rfl) (Reps.one (show Kd.M Kd.string _ _ _ (⟨#[112, 117, 114, 101]⟩ : ByteArray) [.string (⟨#[112, 117, 114, 101]⟩ : ByteArray)] from rfl) (Reps.one (show Kd.M Kd.string _ _ _ (⟨#[99, 111, 110, 110, 101, 99, 116, 101, 100]⟩ : ByteArray) [.string (⟨#[99, 111, 110, 110, 101, 99, 116, 101, 100]⟩ : ByteArray)] from rfl) (Reps.one (show Kd.M Kd.string _ _ _ (⟨#[115, 116, 114, 111, 110, 103]⟩ : ByteArray) [.string (⟨#[115, 116, 114, 111, 110, 103]⟩ : ByteArray)] from rfl) (Reps.one (show Kd.M Kd.string _ _ _ (⟨#[115, 116, 97, 116, 101, 109, 97, 99, 104, 105, 110, 101]⟩ : ByteArray) [.string (⟨#[115, 116, 97, 116, 101, 109, 97, 99, 104, 105, 110, 101]⟩ : ByteArray)] from rfl) (Reps.one (show Kd.M Kd.string _ _ _ (⟨#[109, 97, 114, 107, 101, 100, 103, 114, 97, 112, 104]⟩ : ByteArray) [.string (⟨#[109, 97, 114, 107, 101, 100, 103, 114, 97, 112, 104]⟩ : ByteArray)] from rfl) (Reps.one (show Kd.M Kd.string _ _ _ (⟨#[102, 114, 101, 101, 99, 104, 111, 105, 99, 101]⟩ : ByteArray) [.string (⟨#[102, 114, 101, 101, 99, 104, 111, 105, 99, 101]⟩ : ByteArray)] from rfl) (Reps.one (show Kd.M Kd.string _ _ _ (⟨#[97, 115, 121, 109, 109, 101, 116, 114, 105, 99]⟩ : ByteArray) [.string (⟨#[97, 115, 121, 109, 109, 101, 116, 114, 105, 99]⟩ : ByteArray)] from rfl) (Reps.none _ _))))))))))); intro v573 w16 ho17 hb hg_ hnew_; clear hg_ hnew_; (first | rw [← Ny572.1] at ho17 | (simp only [Int.reduceToNat] at ho17; rw [← Ny572.1] at ho17)); have HO574 := am (Kd.R_lower ho17 (below_size pbg)); replace BK570 := bbh BK570 hb; replace HB := bst hb; clear hb ho17))
 replace HO574 := am (Kd.R_drew HO574.1)
 replace BK570 := am (blk_drew BK570.1)
 replace HB := am (below_drew1 HB.1)
 refine start_ (n := 20) (S := fun w' => w'.cell? ⟨gb570, 0, none⟩ = some (.string a0_0) ∧ w'.cell? ⟨gb570, 1, none⟩ = some (.slice A0_1 l0_1.length c0_1) ∧ w'.cell? ⟨gb570, 2, none⟩ = some (.slice A0_2 l0_2.length c0_2)) (ds := []) #[false, false, false, false, false, false, false, false, false, false, false, false, false, false, false, false, false, false, false, false] (by kernel_rfl) rfl rfl ⟨(blk_cell BK570.1 0).trans rfl, (blk_cell BK570.1 1).trans rfl, (blk_cell BK570.1 2).trans rfl⟩ (fun hHeld => ?_); refine with_tabW r13_Words.tab4 r13_Words.bits4 (fun HT_ HW_ => ?_)
 generalize w16.drew = w18 at HO574 BK570 HB hHeld ⊢
 refine tk HT_.1 HW_.1 hHeld 0 11 ?_
 refine tk HT_.1 HW_.1 hHeld 2 13 ?_
 refine tk HT_.1 HW_.1 hHeld 4 15 ?_
 refine tk HT_.1 HW_.1 hHeld 6 17 ?_
 refine tk HT_.1 HW_.1 hHeld 8 19 ?_
 refine tk HT_.1 HW_.1 hHeld 10 21 ?_
 refine tk HT_.1 HW_.1 hHeld 12 23 ?_
 refine tk HT_.1 HW_.1 hHeld 14 25 ?_
 refine tk HT_.1 HW_.1 hHeld 16 27 ?_
 refine on HT_.1 1 (some 12) fun K hK => ?_
 refine goes_ Try.func64 (by kernel_rfl) rfl #[.agg #[.string a0_0, .slice A0_1 l0_1.length c0_1, .slice A0_2 l0_2.length c0_2]] (by rfl) rfl rfl pgz ?_
 with_reducible refine (r09_Plain.calls k a0_0 _ _ l0_1 _ _ l0_2 t575 _ ?side1 ?side2 ?side3 ?side4 A4.1).mono ?_
 (case side1 => exact csb HR0_1 HB)
 (case side2 => exact HC0_1.1)
 (case side3 => exact csb HR0_2 HB)
 (case side4 => exact HC0_2.1)
 rintro e w19 ⟨rfl, hb⟩
 refine ⟨_, rfl, ?_⟩
 replace HO574 := rbw HO574 hb
 replace BK570 := bbh BK570 hb
 replace HB := bst hb
 (try clear hb)
 (try clear hb2)
 (try clear hk)
 (try clear hi)
 refine hK.out _ _ ⟨(blk_cell BK570.1 0).trans rfl, (blk_cell BK570.1 1).trans rfl, (blk_cell BK570.1 2).trans rfl⟩ (fun hHeld => ?_)
 clear hK K
 refine nm_ ?_
 refine on HT_.1 3 (some 14) fun K hK => ?_
 refine goes_ Try.func65 (by kernel_rfl) rfl #[.agg #[.string a0_0, .slice A0_1 l0_1.length c0_1, .slice A0_2 l0_2.length c0_2]] (by rfl) rfl rfl pgz ?_
 with_reducible refine (r09_Ordinary.calls k a0_0 _ _ l0_1 _ _ l0_2 t576 _ ?side1 ?side2 ?side3 ?side4 A5.1).mono ?_
 (case side1 => exact csb HR0_1 HB)
 (case side2 => exact HC0_1.1)
 (case side3 => exact csb HR0_2 HB)
 (case side4 => exact HC0_2.1)
 rintro e w20 ⟨rfl, hb⟩
 refine ⟨_, rfl, ?_⟩
 replace HO574 := rbw HO574 hb
 replace BK570 := bbh BK570 hb
 replace HB := bst hb
 (try clear hb)
 (try clear hb2)
 (try clear hk)
 (try clear hi)
 refine hK.out _ _ ⟨(blk_cell BK570.1 0).trans rfl, (blk_cell BK570.1 1).trans rfl, (blk_cell BK570.1 2).trans rfl⟩ (fun hHeld => ?_)
 clear hK K
 refine nm_ ?_
 refine on HT_.1 5 (some 16) fun K hK => ?_
 refine goes_ Try.func27 (by kernel_rfl) rfl #[.agg #[.string a0_0, .slice A0_1 l0_1.length c0_1, .slice A0_2 l0_2.length c0_2]] (by rfl) rfl rfl pgz ?_
 with_reducible refine (r13_Pure.calls k a0_0 _ _ l0_1 _ _ l0_2 t577 _ ?side1 ?side2 ?side3 ?side4 A6.1).mono ?_
 (case side1 => exact csb HR0_1 HB)
 (case side2 => exact HC0_1.1)
 (case side3 => exact csb HR0_2 HB)
 (case side4 => exact HC0_2.1)
 rintro e w21 ⟨rfl, hb⟩
 refine ⟨_, rfl, ?_⟩
 replace HO574 := rbw HO574 hb
 replace BK570 := bbh BK570 hb
 replace HB := bst hb
 (try clear hb)
 (try clear hb2)
 (try clear hk)
 (try clear hi)
 refine hK.out _ _ ⟨(blk_cell BK570.1 0).trans rfl, (blk_cell BK570.1 1).trans rfl, (blk_cell BK570.1 2).trans rfl⟩ (fun hHeld => ?_)
 clear hK K
 refine nm_ ?_
 refine on HT_.1 7 (some 18) fun K hK => ?_
 refine goes_ Try.func15 (by kernel_rfl) rfl #[.agg #[.string a0_0, .slice A0_1 l0_1.length c0_1, .slice A0_2 l0_2.length c0_2]] (by rfl) rfl rfl pgz ?_
 with_reducible refine (r13_Connected.calls k a0_0 _ _ l0_1 _ _ l0_2 t578 _ ?side1 ?side2 ?side3 ?side4 A7.1).mono ?_
 (case side1 => exact csb HR0_1 HB)
 (case side2 => exact HC0_1.1)
 (case side3 => exact csb HR0_2 HB)
 (case side4 => exact HC0_2.1)
 rintro e w22 ⟨rfl, hb⟩
 refine ⟨_, rfl, ?_⟩
 replace HO574 := rbw HO574 hb
 replace BK570 := bbh BK570 hb
 replace HB := bst hb
 (try clear hb)
 (try clear hb2)
 (try clear hk)
 (try clear hi)
 refine hK.out _ _ ⟨(blk_cell BK570.1 0).trans rfl, (blk_cell BK570.1 1).trans rfl, (blk_cell BK570.1 2).trans rfl⟩ (fun hHeld => ?_)
 clear hK K
 refine nm_ ?_
 refine on HT_.1 9 (some 20) fun K hK => ?_
 refine goes_ Try.func17 (by kernel_rfl) rfl #[.agg #[.string a0_0, .slice A0_1 l0_1.length c0_1, .slice A0_2 l0_2.length c0_2]] (by rfl) rfl rfl pgz ?_
 with_reducible refine (r13_Strong.calls k a0_0 _ _ l0_1 _ _ l0_2 t579 _ ?side1 ?side2 ?side3 ?side4 A8.1).mono ?_
 (case side1 => exact csb HR0_1 HB)
 (case side2 => exact HC0_1.1)
 (case side3 => exact csb HR0_2 HB)
 (case side4 => exact HC0_2.1)
 rintro e w23 ⟨rfl, hb⟩
 refine ⟨_, rfl, ?_⟩
 replace HO574 := rbw HO574 hb
 replace BK570 := bbh BK570 hb
 replace HB := bst hb
 (try clear hb)
 (try clear hb2)
 (try clear hk)
 (try clear hi)
 refine hK.out _ _ ⟨(blk_cell BK570.1 0).trans rfl, (blk_cell BK570.1 1).trans rfl, (blk_cell BK570.1 2).trans rfl⟩ (fun hHeld => ?_)
 clear hK K
 refine nm_ ?_
 refine on HT_.1 11 (some 22) fun K hK => ?_
 refine goes_ Try.func19 (by kernel_rfl) rfl #[.agg #[.string a0_0, .slice A0_1 l0_1.length c0_1, .slice A0_2 l0_2.length c0_2]] (by rfl) rfl rfl pgz ?_
 with_reducible refine (r13_StateMachine.calls k a0_0 _ _ l0_1 _ _ l0_2 t580 _ ?side1 ?side2 ?side3 ?side4 A9.1).mono ?_
 (case side1 => exact csb HR0_1 HB)
 (case side2 => exact HC0_1.1)
 (case side3 => exact csb HR0_2 HB)
 (case side4 => exact HC0_2.1)
 rintro e w24 ⟨rfl, hb⟩
 refine ⟨_, rfl, ?_⟩
 replace HO574 := rbw HO574 hb
 replace BK570 := bbh BK570 hb
 replace HB := bst hb
 (try clear hb)
 (try clear hb2)
 (try clear hk)
 (try clear hi)
 refine hK.out _ _ ⟨(blk_cell BK570.1 0).trans rfl, (blk_cell BK570.1 1).trans rfl, (blk_cell BK570.1 2).trans rfl⟩ (fun hHeld => ?_)
 clear hK K
 refine nm_ ?_
 refine on HT_.1 13 (some 24) fun K hK => ?_
 refine goes_ Try.func21 (by kernel_rfl) rfl #[.agg #[.string a0_0, .slice A0_1 l0_1.length c0_1, .slice A0_2 l0_2.length c0_2]] (by rfl) rfl rfl pgz ?_
 with_reducible refine (r13_MarkedGraph.calls k a0_0 _ _ l0_1 _ _ l0_2 t581 _ ?side1 ?side2 ?side3 ?side4 A10.1).mono ?_
 (case side1 => exact csb HR0_1 HB)
 (case side2 => exact HC0_1.1)
 (case side3 => exact csb HR0_2 HB)
 (case side4 => exact HC0_2.1)
 rintro e w25 ⟨rfl, hb⟩
 refine ⟨_, rfl, ?_⟩
 replace HO574 := rbw HO574 hb
 replace BK570 := bbh BK570 hb
 replace HB := bst hb
 (try clear hb)
 (try clear hb2)
 (try clear hk)
 (try clear hi)
 refine hK.out _ _ ⟨(blk_cell BK570.1 0).trans rfl, (blk_cell BK570.1 1).trans rfl, (blk_cell BK570.1 2).trans rfl⟩ (fun hHeld => ?_)
 clear hK K
 refine nm_ ?_
 refine on HT_.1 15 (some 26) fun K hK => ?_
 refine goes_ Try.func23 (by kernel_rfl) rfl #[.agg #[.string a0_0, .slice A0_1 l0_1.length c0_1, .slice A0_2 l0_2.length c0_2]] (by rfl) rfl rfl pgz ?_
 with_reducible refine (r13_FreeChoice.calls k a0_0 _ _ l0_1 _ _ l0_2 t582 _ ?side1 ?side2 ?side3 ?side4 A11.1).mono ?_
 (case side1 => exact csb HR0_1 HB)
 (case side2 => exact HC0_1.1)
 (case side3 => exact csb HR0_2 HB)
 (case side4 => exact HC0_2.1)
 rintro e w26 ⟨rfl, hb⟩
 refine ⟨_, rfl, ?_⟩
 replace HO574 := rbw HO574 hb
 replace BK570 := bbh BK570 hb
 replace HB := bst hb
 (try clear hb)
 (try clear hb2)
 (try clear hk)
 (try clear hi)
 refine hK.out _ _ ⟨(blk_cell BK570.1 0).trans rfl, (blk_cell BK570.1 1).trans rfl, (blk_cell BK570.1 2).trans rfl⟩ (fun hHeld => ?_)
 clear hK K
 refine nm_ ?_
 refine on HT_.1 17 (some 28) fun K hK => ?_
 refine goes_ Try.func25 (by kernel_rfl) rfl #[.agg #[.string a0_0, .slice A0_1 l0_1.length c0_1, .slice A0_2 l0_2.length c0_2]] (by rfl) rfl rfl pgz ?_
 with_reducible refine (r13_Asymmetric.calls k a0_0 _ _ l0_1 _ _ l0_2 t583 _ ?side1 ?side2 ?side3 ?side4 A12.1).mono ?_
 (case side1 => exact csb HR0_1 HB)
 (case side2 => exact HC0_1.1)
 (case side3 => exact csb HR0_2 HB)
 (case side4 => exact HC0_2.1)
 rintro e w27 ⟨rfl, hb⟩
 refine ⟨_, rfl, ?_⟩
 replace HO574 := rbw HO574 hb
 replace BK570 := bbh BK570 hb
 replace HB := bst hb
 (try clear hb)
 (try clear hb2)
 (try clear hk)
 (try clear hi)
 refine hK.out _ _ ⟨(blk_cell BK570.1 0).trans rfl, (blk_cell BK570.1 1).trans rfl, (blk_cell BK570.1 2).trans rfl⟩ (fun hHeld => ?_)
 clear hK K
 refine nm_ ?_
 refine on HT_.1 18 (some 29) fun K hK => ?_
 refine Kd.R_lit_step Kd.bool _ 4 ?hg (N := 29) ?hd (xs := ([t575, t576, t577, t578, t579, t580, t581, t582, t583] : List Bool)) (inner := [.bool t575, .bool t576, .bool t577, .bool t578, .bool t579, .bool t580, .bool t581, .bool t582, .bool t583]) (ok := fun _ => True) (okp := fun _ => True) ?hr ?hp (fun _ hk => hk) trivial (Below.refl _ _) (Nat.le_refl _) (by simp) ?_; (case hd => rfl); (case hg => rfl); (case hr => first | (go_simp; done) | (go_simp; rfl)); (case hp => exact (Reps.one (show Kd.M Kd.bool _ _ _ t575 [.bool t575] from rfl) (Reps.one (show Kd.M Kd.bool _ _ _ t576 [.bool t576] from rfl) (Reps.one (show Kd.M Kd.bool _ _ _ t577 [.bool t577] from rfl) (Reps.one (show Kd.M Kd.bool _ _ _ t578 [.bool t578] from rfl) (Reps.one (show Kd.M Kd.bool _ _ _ t579 [.bool t579] from rfl) (Reps.one (show Kd.M Kd.bool _ _ _ t580 [.bool t580] from rfl) (Reps.one (show Kd.M Kd.bool _ _ _ t581 [.bool t581] from rfl) (Reps.one (show Kd.M Kd.bool _ _ _ t582 [.bool t582] from rfl) (Reps.one (show Kd.M Kd.bool _ _ _ t583 [.bool t583] from rfl) (Reps.none _ _)))))))))))
 intro v585 w28 ho29 hb hg_ hnew_
 clear hg_ hnew_
 (first | rw [← Ny584.1] at ho29 | (simp only [Int.reduceToNat] at ho29; rw [← Ny584.1] at ho29))
 have n0_ := rbw HO574 hb
 have n1_ := am (Kd.R_lower ho29 (below_size pbg))
 have n2_ := bbh BK570 hb
 have n3_ := bst hb
 clear HO574 BK570 HB
 have HO574 := n0_
 have HO586 := n1_
 have BK570 := n2_
 have HB := n3_
 clear n0_ n1_ n2_ n3_ hb ho29
 refine hK.out _ _ ⟨(blk_cell BK570.1 0).trans rfl, (blk_cell BK570.1 1).trans rfl, (blk_cell BK570.1 2).trans rfl⟩ (fun hHeld => ?_)
 clear hK K
 refine nm_ ?_
 refine pu HT_.1 19 4 ?_
 refine done_ (done_of HT_.1 (by kernel_rfl)) ?_
 try go_wp2
 go_loopg [5, 6] k (fun kq v5 v6 w' => ∃ (x5_1 : List ByteArray) (x6_1 : Int), v6 = .int .i64 x6_1 ∧ Aside0 (r13_Words.l0 kq y572 y584 x5_1 x6_1 = some r) ∧ Aside0 (kq ≤ k) ∧ Aside0 (Kd.R Kd.string 9 w' w.heap.size (fun k_ => some k_ ≠ (v5 : Value).ownBlock) v573 y572) ∧ Aside0 (Kd.R Kd.bool 4 w' w.heap.size (fun _ => True) v585 y584) ∧ Aside0 (Kd.R Kd.string 9 w' w.heap.size (fun k_ => some k_ ≠ (v573 : Value).ownBlock) v5 x5_1) ∧ Aside0 (w'.heap[gb570]? = some (.cells #[.string a0_0, (.slice A0_1 l0_1.length c0_1), (.slice A0_2 l0_2.length c0_2)] 25 (0, 0))) ∧ Aside0 (Below w.heap.size w w'))
 case atStart => exact ⟨(([] : List ByteArray)), (0), prs, H', ⟨Nat.le_refl _⟩, ⟨by (with_reducible repeat (first | apply Kd.R_alloc | apply Kd.R_drewN | apply Kd.R_drew)); exact Kd.R_mono HO574.1 (fun _ hk => (by simp [Value.ownBlock]))⟩, ⟨pkr HO586.1⟩, ⟨knl⟩, ⟨pbk BK570.1⟩, ⟨pbg⟩⟩
 clear H'
 try clear c3 z14
 obtain ⟨x5_1, x6_1, rfl, HA, HK1, HO_3, HO_4, HO_5, BK570, HB⟩ := hrel
 obtain _ | k1 := gk
 ·exact absurd HA.1 (by simp [r13_Words.l0])
 have H := HA.1
 clear HA
 simp only [r13_Words.l0] at H
 by_cases c30 : x6_1 < (y572.length : Int)
 rotate_left
 ·rw [if_neg c30] at H
  have c30b0 : decide (x6_1 < (y572.length : Int)) = false := decide_eq_false c30
  clear c30
  obtain rfl := Option.some.inj H
  obtain ⟨Ao41, co41, eo41⟩ := Kd.R_slice HO_3.1
  subst eo41
  go_wp2
  go_ret
  exact ⟨_, per, by (with_reducible repeat (first | apply Kd.R_alloc | apply Kd.R_drewN | apply Kd.R_drew)); exact Kd.R_mono HO_5.1 (fun _ hk => trivial), pbg⟩
 rw [if_pos c30] at H
 have c30b0 : decide (x6_1 < (y572.length : Int)) = true := decide_eq_true c30
 clear c30
 replace H := ifp H
 obtain ⟨c31, H⟩ := H
 have c31b0 := decide_eq_true c31
 clear c31
 replace H := ifp H
 obtain ⟨c32, H⟩ := H
 have c32b0 := decide_eq_true c32
 clear c32
 obtain ⟨bq33, hbq33⟩ : ∃ b_ : Bool, b_ = (rdOf false y584 x6_1) := ⟨_, rfl⟩
 replace H : (if bq33 = true then (if x5_1.length < 8796093022208 then (r13_Words.l0 k1 y572 y584 (x5_1 ++ [rdOf ByteArray.empty y572 x6_1]) (wrap64 (x6_1 + 1))) else (none)) else (r13_Words.l0 k1 y572 y584 x5_1 (wrap64 (x6_1 + 1)))) = some r := by rw [← hbq33] at H; exact H
 have Nbq33 := am hbq33
 clear hbq33
 by_cases c34 : bq33 = true
 rotate_left
 ·replace c34 := Bool.eq_false_iff.mpr c34
  subst c34
  rw [if_neg Bool.false_ne_true] at H
  have H' := am H
  clear H
  obtain ⟨Ao39, co39, eo39⟩ := Kd.R_slice HO_3.1
  subst eo39
  obtain ⟨Ao40, co40, eo40⟩ := Kd.R_slice HO_4.1
  subst eo40
  obtain ⟨p587, q587, ad587, e587, hx587_0⟩ := dbool (Kd.R_reads' HO_4.1).2.2 x6_1
  (try rw [← Nbq33.1] at hx587_0)
  cases e587
  go_wp2
  go_roundg k1
  case measure => have := HK1.1; omega
  case rel => exact ⟨(x5_1), (wrap64 (x6_1 + 1)), prs, H', ⟨by have := HK1.1; omega⟩, ⟨pkr HO_3.1⟩, ⟨pkr HO_4.1⟩, ⟨pkr HO_5.1⟩, ⟨pbk BK570.1⟩, ⟨pbg⟩⟩
 subst c34
 rw [if_pos rfl] at H
 replace H := ifp H
 obtain ⟨c35, H⟩ := H
 have LMc35 := am c35
 clear c35
 obtain ⟨y589, hy589⟩ : ∃ y_ : List ByteArray, y_ = (x5_1 ++ [rdOf ByteArray.empty y572 x6_1]) := ⟨_, rfl⟩
 replace H : (r13_Words.l0 k1 y572 y584 y589 (wrap64 (x6_1 + 1))) = some r := hrp hy589 H
 have Ny589 := am hy589
 clear hy589
 have H' := am H
 clear H
 obtain ⟨Ao36, co36, eo36⟩ := Kd.R_slice HO_3.1
 subst eo36
 obtain ⟨Ao37, co37, eo37⟩ := Kd.R_slice HO_4.1
 subst eo37
 obtain ⟨p587, q587, ad587, e587, hx587_0⟩ := dbool (Kd.R_reads' HO_4.1).2.2 x6_1
 (try rw [← Nbq33.1] at hx587_0)
 cases e587
 obtain ⟨p588, q588, ad588, e588, hx588_0⟩ := dstring (Kd.R_reads' HO_3.1).2.2 x6_1
 cases e588
 go_wp2_with (first | ((with_reducible refine gate_builtin (b := .append) (xs := #[.tmp 40, .tmp 45]) rfl ?_); at_builtin; refine Kd.R_append Kd.string (w0 := w) w.heap.size rfl (.tmp 40) (.tmp 45) 34 9 (.string ⟨#[]⟩) 16 rfl Try.underlying34 info9 rfl (by decide) (by omega) u5 x5_1 (rdOf ByteArray.empty y572 x6_1) [.string (rdOf ByteArray.empty y572 x6_1)] (fun k_ => some k_ ≠ (.slice (some ad588) y572.length co36 : Value).ownBlock) (fun _ => False) rfl rfl ?aP (fun _ hk => hk.elim) ?aF ?aO ?aB ?aS ?aL ?_; (case aP => exact rfl); (case aB => exact pbg); (case aF => exact (fun k_ hk => Kd.fresh' (Kd.R_lt (pkr HO_3.1)) k_ hk)); (case aO => exact (pkr HO_5.1)); (case aS => exact (below_size pbg)); (case aL => have := LMc35.1; omega); intro v590 w38 ho hb hg hat; rw [← Ny589.1] at ho; have HO591 := am ho; replace HO_3 := am (Kd.R_after (ok := (fun _ => True)) (by (with_reducible repeat (first | apply Kd.R_alloc | apply Kd.R_drewN | apply Kd.R_drew)); exact Kd.R_mono HO_3.1 (fun _ hk => ⟨trivial, hk⟩)) hg hat); replace HO_4 := am (Kd.R_over' (pkr HO_4.1) (Kd.R_typed (pkr HO_5.1)) (by decide) hg); replace BK570 := am (blk_grown (g := gb570) (o := .cells #[.string a0_0, .slice A0_1 l0_1.length c0_1, .slice A0_2 l0_2.length c0_2] 25 (0, 0)) (by exact pbk BK570.1) hg (Kd.R_ne HO_5.1 BK570.1 (by decide))); replace HB := am hb; clear HO_5; clear ho hb hg hat))
 go_roundg k1
 case measure => have := HK1.1; omega
 case rel => exact ⟨(y589), (wrap64 (x6_1 + 1)), prs, H', ⟨by have := HK1.1; omega⟩, ⟨by (with_reducible repeat (first | apply Kd.R_alloc | apply Kd.R_drewN | apply Kd.R_drew)); exact Kd.R_mono HO_3.1 (fun _ hk => hk.2)⟩, ⟨pkr HO_4.1⟩, ⟨pkr HO591.1⟩, ⟨pbk BK570.1⟩, ⟨pbg⟩⟩

/-! ### petrinetlaw13_NetclassWords: function 5 -/
def petrinetlaw13_NetclassWords.f (k : Nat) (a0_0 : ByteArray) (l0_1 : List (S46)) (l0_2 : List (S41)) : Option (Bool) := (r09_Small.f k a0_0 l0_1 l0_2).bind fun bt593 => (if bt593.2.2.2 = true then ((netclass_Words.f k bt593.1 bt593.2.1 bt593.2.2.1).bind fun t603 => ((r13_Words.f k bt593.1 bt593.2.1 bt593.2.2.1).bind fun t606 => ((r48_Same.f k t603 t606).bind fun t609 => (if t609 = true then ((petrinetlaw13_alive.f k).bind fun t610 => (some t610)) else (none))))) else ((petrinetlaw13_alive.f k).bind fun t602 => (some t602)))
theorem petrinetlaw13_NetclassWords.mono : ∀ a0 a1 a2 k, LeO (petrinetlaw13_NetclassWords.f k a0 a1 a2) (petrinetlaw13_NetclassWords.f (k + 1) a0 a1 a2) := by
 intro a0 a1 a2 k
 unfold petrinetlaw13_NetclassWords.f
 repeat' first | (with_reducible first | apply netclass_Words.mono | apply petrinetlaw13_alive.mono | apply r09_Small.mono | apply r13_Words.mono | apply r48_Same.mono | apply lr | apply ln | apply li | refine lb ?_ fun _ => ?_)
def petrinetlaw13_NetclassWords.T4 : Bool × List (List Nat × List Nat) := (true, [([], []), ([0], [0]), ([], []), ([2, 1], [2]), ([1, 3, 3], [1, 3]), ([4, 4], [4]), ([5, 5], [5]), ([5, 6], [5, 6]), ([7, 6, 0, 1, 2, 3, 4, 5, 6, 7], [7])])
def petrinetlaw13_NetclassWords.B4 : List Nat := [0, 1, 0, 7, 15, 31, 63, 127, 255]
theorem petrinetlaw13_NetclassWords.tab4 : rtab .any (opsOf Try.f5 4) = petrinetlaw13_NetclassWords.T4 := by kernel_rfl
theorem petrinetlaw13_NetclassWords.bits4 : waitsOk petrinetlaw13_NetclassWords.T4.2 petrinetlaw13_NetclassWords.B4 = true := by kernel_rfl
set_option maxHeartbeats 8000000 in
set_option maxRecDepth 100000 in
theorem petrinetlaw13_NetclassWords.calls (k : Nat) (a0_0 : ByteArray) (A0_1 : Option Addr) (c0_1 : Nat) (l0_1 : List (S46)) (A0_2 : Option Addr) (c0_2 : Nat) (l0_2 : List (S41)) (r : Bool) (w : World) (hr0_1 : Kd.C k46 w A0_1 l0_1.length l0_1) (hc0_1 : l0_1.length ≤ c0_1) (hr0_2 : Kd.C k41 w A0_2 l0_2.length l0_2) (hc0_2 : l0_2.length ≤ c0_2) (h : petrinetlaw13_NetclassWords.f k a0_0 l0_1 l0_2 = some r) :
  Calls Try.prog 5 #[.agg #[.string a0_0, .slice A0_1 l0_1.length c0_1, .slice A0_2 l0_2.length c0_2]] w fun e w' => e = .returned (.bool r) ∧ Below w.heap.size w w' := by
 have hu25 := Try.underlying25
 have HR0_1 := am hr0_1
 have HC0_1 := am hc0_1
 clear hr0_1 hc0_1
 have HR0_2 := am hr0_2
 have HC0_2 := am hc0_2
 clear hr0_2 hc0_2
 have HB := am (Below.refl w.heap.size w)
 have H : ((r09_Small.f k a0_0 l0_1 l0_2).bind fun bt593 => (if bt593.2.2.2 = true then ((netclass_Words.f k bt593.1 bt593.2.1 bt593.2.2.1).bind fun t603 => ((r13_Words.f k bt593.1 bt593.2.1 bt593.2.2.1).bind fun t606 => ((r48_Same.f k t603 t606).bind fun t609 => (if t609 = true then ((petrinetlaw13_alive.f k).bind fun t610 => (some t610)) else (none))))) else ((petrinetlaw13_alive.f k).bind fun t602 => (some t602)))) = some r := h
 clear h
 replace H := bnd H
 obtain ⟨⟨t593, t594, t597, t600⟩, A2, H⟩ := H
 (try dsimp only at H)
 by_cases c3 : t600 = true
 rotate_left
 ·replace c3 := Bool.eq_false_iff.mpr c3
  subst c3
  rw [if_neg Bool.false_ne_true] at H
  replace H := bnd H
  obtain ⟨t602, A24, H⟩ := H
  (try dsimp only at H)
  obtain rfl := Option.some.inj H
  go_enter Try.func5, Try.ntmps5
  go_wp2_with (first | ((with_reducible refine gate_dst (N := 1) rfl ?_); refine box_ev (N := 1) (cs := #[.string a0_0, .slice A0_1 l0_1.length c0_1, .slice A0_2 l0_2.length c0_2]) (t := 25) ?_; intro gb592 hg w25 hbox hb; have BK592 := am hbox; have GW592 := gwl hg; have GE592 := GW592; replace HB := bsl hb; clear hb hbox hg; have z26 := cf3 BK592.1) | ((with_reducible refine gate_callee (f := 9) rfl ?_); refine gC 7 Try.func9 _ (r09_Small.calls k a0_0 (fun k_ => k_ < w.heap.size) _ _ l0_1 (fun k_ => k_ < w.heap.size) _ _ l0_2 t593 t594 t597 false _ (Kd.V_mk HC0_1.1 (Kd.F_below (Kd.C_F k46_heap HR0_1.1) pbg)) (Kd.V_mk HC0_2.1 (Kd.F_below (Kd.C_F k41_heap HR0_2.1) pbg)) A2.1) ?_; rintro e w27 ⟨v595, v598, rfl, ho0, ho1, hb⟩; refine ⟨_, rfl, ?_⟩; have HO596 := am (Kd.V_lower (Kd.V_mono (ok' := fun k_ => k_ ≠ gb592) ho0 (fun k_ hk_ => Or.elim hk_ (fun hs_ => Or.elim hs_ (fun hs_ => fun e_ => Nat.not_le.2 hs_ (by rw [e_]; exact GW592.1)) (fun hs_ => fun e_ => Nat.not_le.2 hs_ (by rw [e_]; exact GW592.1))) (fun hn_ => (Kd.freshB (g := gb592) (o := .cells #[.string a0_0, .slice A0_1 l0_1.length c0_1, .slice A0_2 l0_2.length c0_2] 25 (0, 0)) (by exact pbk BK592.1) k_ hn_)))) (below_size pbg)); have HO599 := am (Kd.V_lower (Kd.V_mono (ok' := fun k_ => k_ ≠ gb592) ho1 (fun k_ hk_ => Or.elim hk_ (fun hs_ => Or.elim hs_ (fun hs_ => fun e_ => Nat.not_le.2 hs_ (by rw [e_]; exact GW592.1)) (fun hs_ => fun e_ => Nat.not_le.2 hs_ (by rw [e_]; exact GW592.1))) (fun hn_ => (Kd.freshB (g := gb592) (o := .cells #[.string a0_0, .slice A0_1 l0_1.length c0_1, .slice A0_2 l0_2.length c0_2] 25 (0, 0)) (by exact pbk BK592.1) k_ hn_)))) (below_size pbg)); replace BK592 := bbh BK592 hb; replace HB := bst hb; (try clear hb); (try clear ho0); (try clear ho1)) | ((with_reducible refine gate_dst (N := 3) rfl ?_); refine box_ev (N := 3) (cs := #[.string (⟨#[]⟩ : ByteArray), .slice none 0 0, .slice none 0 0]) (t := 25) ?_; intro gb601 hg w28 hbox hb; have BK601 := am hbox; have GW601 := gwb hg; have GE601 := GW601; have NB592_601 := nlt hg BK592; have NB601_592 := ngt hg BK592; replace HO596 := vbb HO596 hg hb; replace HO599 := vbb HO599 hg hb; replace BK592 := bbh BK592 hb; replace HB := bst hb; clear hb hbox hg; have hnb29 := NB601_592.1; have hnc29 := NB592_601.1; have z30 := cf3 BK601.1; obtain ⟨Ao31, co31, eo31⟩ := Kd.V_slice HO596.1; subst eo31; obtain ⟨Ao32, co32, eo32⟩ := Kd.V_slice HO599.1; subst eo32) | ((with_reducible refine gate_callee (f := 10) rfl ?_); refine gC 12 Try.func10 _ (petrinetlaw13_alive.calls k  t602 _ A24.1) ?_; rintro e w33 ⟨rfl, hb⟩; refine ⟨_, rfl, ?_⟩; replace HO596 := am (Kd.V_below (by (with_reducible repeat (first | apply Kd.V_alloc | apply Kd.V_drewN | apply Kd.V_drew)); exact (Kd.V_mono (Kd.V_far (p := ⟨gb601, 2, none⟩) (Kd.V_far (p := ⟨gb601, 1, none⟩) (Kd.V_far (p := ⟨gb601, 0, none⟩) (Kd.V_mono HO596.1 (fun k_ hk => (⟨hk, hk.2⟩ : _ ∧ k_ ≠ gb601))) (fun _ hk => hk.2) (.string t593)) (fun _ hk => hk.2) (.slice Ao31 t594.length co31)) (fun _ hk => hk.2) (.slice Ao32 t597.length co32)) (fun _ h_ => h_.1))) hb); replace HO599 := am (Kd.V_below (by (with_reducible repeat (first | apply Kd.V_alloc | apply Kd.V_drewN | apply Kd.V_drew)); exact (Kd.V_mono (Kd.V_far (p := ⟨gb601, 2, none⟩) (Kd.V_far (p := ⟨gb601, 1, none⟩) (Kd.V_far (p := ⟨gb601, 0, none⟩) (Kd.V_mono HO599.1 (fun k_ hk => (⟨hk, hk.2⟩ : _ ∧ k_ ≠ gb601))) (fun _ hk => hk.2) (.string t593)) (fun _ hk => hk.2) (.slice Ao31 t594.length co31)) (fun _ hk => hk.2) (.slice Ao32 t597.length co32)) (fun _ h_ => h_.1))) hb); replace BK592 := am (blk_below (g := gb592) (o := .cells #[.string a0_0, .slice A0_1 l0_1.length c0_1, .slice A0_2 l0_2.length c0_2] 25 (0, 0)) (by (with_reducible repeat (first | refine blk_drewN ?_ _ | refine blk_drew ?_ | refine blk_alloc ?_ _)); refine bf3 ?_ NB592_601.1; exact pbk BK592.1) hb); replace BK601 := am (blk_below (g := gb601) (o := .cells #[.string t593, .slice Ao31 t594.length co31, .slice Ao32 t597.length co32] 25 (0, 0)) (by (with_reducible repeat (first | refine blk_drewN ?_ _ | refine blk_drew ?_ | refine blk_alloc ?_ _)); exact bp3 (pbk BK601.1)) hb); replace HB := bst hb; (try clear hb); (try clear hk)))
  go_ret
  exact ⟨per, pbg⟩
 subst c3
 rw [if_pos rfl] at H
 replace H := bnd H
 obtain ⟨t603, A4, H⟩ := H
 (try dsimp only at H)
 replace H := bnd H
 obtain ⟨t606, A5, H⟩ := H
 (try dsimp only at H)
 replace H := bnd H
 obtain ⟨t609, A6, H⟩ := H
 (try dsimp only at H)
 by_cases c7 : t609 = true
 rotate_left
 ·replace c7 := Bool.eq_false_iff.mpr c7
  subst c7
  rw [if_neg Bool.false_ne_true] at H
  exact absurd H (by simp)
 subst c7
 rw [if_pos rfl] at H
 replace H := bnd H
 obtain ⟨t610, A8, H⟩ := H
 (try dsimp only at H)
 obtain rfl := Option.some.inj H
 go_enter Try.func5, Try.ntmps5
 try go_wp2_with (first | ((with_reducible refine gate_dst (N := 1) rfl ?_); refine box_ev (N := 1) (cs := #[.string a0_0, .slice A0_1 l0_1.length c0_1, .slice A0_2 l0_2.length c0_2]) (t := 25) ?_; intro gb592 hg w9 hbox hb; have BK592 := am hbox; have GW592 := gwl hg; have GE592 := GW592; replace HB := bsl hb; clear hb hbox hg; have z10 := cf3 BK592.1) | ((with_reducible refine gate_callee (f := 9) rfl ?_); refine gC 7 Try.func9 _ (r09_Small.calls k a0_0 (fun k_ => k_ < w.heap.size) _ _ l0_1 (fun k_ => k_ < w.heap.size) _ _ l0_2 t593 t594 t597 true _ (Kd.V_mk HC0_1.1 (Kd.F_below (Kd.C_F k46_heap HR0_1.1) pbg)) (Kd.V_mk HC0_2.1 (Kd.F_below (Kd.C_F k41_heap HR0_2.1) pbg)) A2.1) ?_; rintro e w11 ⟨v595, v598, rfl, ho0, ho1, hb⟩; refine ⟨_, rfl, ?_⟩; have HO596 := am (Kd.V_lower (Kd.V_mono (ok' := fun k_ => k_ ≠ gb592) ho0 (fun k_ hk_ => Or.elim hk_ (fun hs_ => Or.elim hs_ (fun hs_ => fun e_ => Nat.not_le.2 hs_ (by rw [e_]; exact GW592.1)) (fun hs_ => fun e_ => Nat.not_le.2 hs_ (by rw [e_]; exact GW592.1))) (fun hn_ => (Kd.freshB (g := gb592) (o := .cells #[.string a0_0, .slice A0_1 l0_1.length c0_1, .slice A0_2 l0_2.length c0_2] 25 (0, 0)) (by exact pbk BK592.1) k_ hn_)))) (below_size pbg)); have HO599 := am (Kd.V_lower (Kd.V_mono (ok' := fun k_ => k_ ≠ gb592) ho1 (fun k_ hk_ => Or.elim hk_ (fun hs_ => Or.elim hs_ (fun hs_ => fun e_ => Nat.not_le.2 hs_ (by rw [e_]; exact GW592.1)) (fun hs_ => fun e_ => Nat.not_le.2 hs_ (by rw [e_]; exact GW592.1))) (fun hn_ => (Kd.freshB (g := gb592) (o := .cells #[.string a0_0, .slice A0_1 l0_1.length c0_1, .slice A0_2 l0_2.length c0_2] 25 (0, 0)) (by exact pbk BK592.1) k_ hn_)))) (below_size pbg)); replace BK592 := bbh BK592 hb; replace HB := bst hb; (try clear hb); (try clear ho0); (try clear ho1)) | ((with_reducible refine gate_dst (N := 3) rfl ?_); refine box_ev (N := 3) (cs := #[.string (⟨#[]⟩ : ByteArray), .slice none 0 0, .slice none 0 0]) (t := 25) ?_; intro gb601 hg w12 hbox hb; have BK601 := am hbox; have GW601 := gwb hg; have GE601 := GW601; have NB592_601 := nlt hg BK592; have NB601_592 := ngt hg BK592; replace HO596 := vbb HO596 hg hb; replace HO599 := vbb HO599 hg hb; replace BK592 := bbh BK592 hb; replace HB := bst hb; clear hb hbox hg; have hnb13 := NB601_592.1; have hnc13 := NB592_601.1; have z14 := cf3 BK601.1; obtain ⟨Ao15, co15, eo15⟩ := Kd.V_slice HO596.1; subst eo15; obtain ⟨Ao16, co16, eo16⟩ := Kd.V_slice HO599.1; subst eo16))
 have n0_ : Aside0 (Kd.V k46 46 (((w12.setCell ⟨gb601, 0, none⟩ (.string t593)).setCell ⟨gb601, 1, none⟩ (.slice Ao15 t594.length co15)).setCell ⟨gb601, 2, none⟩ (.slice Ao16 t597.length co16)) w.heap.size (fun k_ => k_ ≠ gb592 ∧ k_ ≠ gb601) (.slice Ao15 t594.length co15) t594) := ⟨by (with_reducible repeat (first | apply Kd.V_alloc | apply Kd.V_drewN | apply Kd.V_drew)); exact Kd.V_mono (Kd.V_far (p := ⟨gb601, 2, none⟩) (Kd.V_far (p := ⟨gb601, 1, none⟩) (Kd.V_far (p := ⟨gb601, 0, none⟩) (Kd.V_mono HO596.1 (fun k_ hk => (⟨hk, hk.2⟩ : _ ∧ k_ ≠ gb601))) (fun _ hk => hk.2) (.string t593)) (fun _ hk => hk.2) (.slice Ao15 t594.length co15)) (fun _ hk => hk.2) (.slice Ao16 t597.length co16)) (fun _ hk => ⟨hk.1.1, hk.1.2⟩)⟩
 have n1_ : Aside0 (Kd.V k41 41 (((w12.setCell ⟨gb601, 0, none⟩ (.string t593)).setCell ⟨gb601, 1, none⟩ (.slice Ao15 t594.length co15)).setCell ⟨gb601, 2, none⟩ (.slice Ao16 t597.length co16)) w.heap.size (fun k_ => k_ ≠ gb592 ∧ k_ ≠ gb601) (.slice Ao16 t597.length co16) t597) := ⟨by (with_reducible repeat (first | apply Kd.V_alloc | apply Kd.V_drewN | apply Kd.V_drew)); exact Kd.V_mono (Kd.V_far (p := ⟨gb601, 2, none⟩) (Kd.V_far (p := ⟨gb601, 1, none⟩) (Kd.V_far (p := ⟨gb601, 0, none⟩) (Kd.V_mono HO599.1 (fun k_ hk => (⟨hk, hk.2⟩ : _ ∧ k_ ≠ gb601))) (fun _ hk => hk.2) (.string t593)) (fun _ hk => hk.2) (.slice Ao15 t594.length co15)) (fun _ hk => hk.2) (.slice Ao16 t597.length co16)) (fun _ hk => ⟨hk.1.1, hk.1.2⟩)⟩
 have n2_ : Aside0 ((((w12.setCell ⟨gb601, 0, none⟩ (.string t593)).setCell ⟨gb601, 1, none⟩ (.slice Ao15 t594.length co15)).setCell ⟨gb601, 2, none⟩ (.slice Ao16 t597.length co16)).heap[gb592]? = some (.cells #[.string a0_0, .slice A0_1 l0_1.length c0_1, .slice A0_2 l0_2.length c0_2] 25 (0, 0))) := ⟨by (with_reducible repeat (first | refine blk_drewN ?_ _ | refine blk_drew ?_ | refine blk_alloc ?_ _)); refine bf3 ?_ NB592_601.1; exact pbk BK592.1⟩
 have n3_ : Aside0 ((((w12.setCell ⟨gb601, 0, none⟩ (.string t593)).setCell ⟨gb601, 1, none⟩ (.slice Ao15 t594.length co15)).setCell ⟨gb601, 2, none⟩ (.slice Ao16 t597.length co16)).heap[gb601]? = some (.cells #[.string t593, .slice Ao15 t594.length co15, .slice Ao16 t597.length co16] 25 (0, 0))) := ⟨by (with_reducible repeat (first | refine blk_drewN ?_ _ | refine blk_drew ?_ | refine blk_alloc ?_ _)); exact bp3 (pbk BK601.1)⟩
 have n4_ : Aside0 (Below w.heap.size w (((w12.setCell ⟨gb601, 0, none⟩ (.string t593)).setCell ⟨gb601, 1, none⟩ (.slice Ao15 t594.length co15)).setCell ⟨gb601, 2, none⟩ (.slice Ao16 t597.length co16))) := ⟨pbg⟩
 (try clear HO596)
 (try clear HO599)
 (try clear BK592)
 (try clear BK601)
 (try clear HB)
 generalize (((w12.setCell ⟨gb601, 0, none⟩ (.string t593)).setCell ⟨gb601, 1, none⟩ (.slice Ao15 t594.length co15)).setCell ⟨gb601, 2, none⟩ (.slice Ao16 t597.length co16)) = w17 at n0_ n1_ n2_ n3_ n4_ ⊢
 have HO596 := n0_
 have HO599 := n1_
 have BK592 := n2_
 have BK601 := n3_
 have HB := n4_
 clear n0_ n1_ n2_ n3_ n4_
 replace HO596 := am (Kd.V_drew HO596.1)
 replace HO599 := am (Kd.V_drew HO599.1)
 replace BK592 := am (blk_drew BK592.1)
 replace BK601 := am (blk_drew BK601.1)
 replace HB := am (below_drew1 HB.1)
 refine start_ (n := 9) (S := fun w' => w'.cell? ⟨gb601, 0, none⟩ = some (.string t593) ∧ w'.cell? ⟨gb601, 1, none⟩ = some (.slice Ao15 t594.length co15) ∧ w'.cell? ⟨gb601, 2, none⟩ = some (.slice Ao16 t597.length co16)) (ds := []) #[false, false, false, false, false, false, false, false, false] (by kernel_rfl) rfl rfl ⟨(blk_cell BK601.1 0).trans rfl, (blk_cell BK601.1 1).trans rfl, (blk_cell BK601.1 2).trans rfl⟩ (fun hHeld => ?_); refine with_tabW petrinetlaw13_NetclassWords.tab4 petrinetlaw13_NetclassWords.bits4 (fun HT_ HW_ => ?_)
 generalize w17.drew = w18 at HO596 HO599 BK592 BK601 HB hHeld ⊢
 refine tk HT_.1 HW_.1 hHeld 0 13 ?_
 refine tk HT_.1 HW_.1 hHeld 2 15 ?_
 refine on HT_.1 1 (some 14) fun K hK => ?_
 refine goes_ Try.func29 (by kernel_rfl) rfl #[.agg #[.string t593, .slice Ao15 t594.length co15, .slice Ao16 t597.length co16]] (by rfl) rfl rfl pgz ?_
 with_reducible refine (netclass_Words.calls k t593 _ _ t594 _ _ t597 t603 _ ?side1 ?side2 ?side3 ?side4 A4.1).mono ?_
 (case side1 => exact csd ((Kd.V_reads' HO596.1).2.2))
 (case side2 => exact (Kd.V_reads' HO596.1).2.1)
 (case side3 => exact csd ((Kd.V_reads' HO599.1).2.2))
 (case side4 => exact (Kd.V_reads' HO599.1).2.1)
 rintro e w19 ⟨v604, rfl, ho0, hb⟩
 refine ⟨_, rfl, ?_⟩
 have HO605 := am (Kd.R_lower ho0 (below_size pbg))
 replace HO596 := am (Kd.V_elder' (pkv HO596.1) (Kd.R_base ho0) hb)
 replace HO599 := am (Kd.V_elder' (pkv HO599.1) (Kd.R_base ho0) hb)
 replace BK592 := bbh BK592 hb
 replace BK601 := bbh BK601 hb
 replace HB := bst hb
 (try clear hb)
 (try clear hb2)
 (try clear hk)
 (try clear hi)
 (try clear ho0)
 refine hK.out _ _ ⟨(blk_cell BK601.1 0).trans rfl, (blk_cell BK601.1 1).trans rfl, (blk_cell BK601.1 2).trans rfl⟩ (fun hHeld => ?_)
 clear hK K
 refine nm_ ?_
 refine on HT_.1 3 (some 16) fun K hK => ?_
 refine goes_ Try.func30 (by kernel_rfl) rfl #[.agg #[.string t593, .slice Ao15 t594.length co15, .slice Ao16 t597.length co16]] (by rfl) rfl rfl pgz ?_
 with_reducible refine (r13_Words.calls k t593 _ _ t594 _ _ t597 t606 _ ?side1 ?side2 ?side3 ?side4 A5.1).mono ?_
 (case side1 => exact csd ((Kd.V_reads' HO596.1).2.2))
 (case side2 => exact (Kd.V_reads' HO596.1).2.1)
 (case side3 => exact csd ((Kd.V_reads' HO599.1).2.2))
 (case side4 => exact (Kd.V_reads' HO599.1).2.1)
 rintro e w20 ⟨v607, rfl, ho0, hb⟩
 refine ⟨_, rfl, ?_⟩
 have HO608 := am (Kd.R_lower (Kd.R_new' ho0 (Kd.R_lt (pkr HO605.1))) (below_size pbg))
 replace HO596 := am (Kd.V_elder' (pkv HO596.1) (Kd.R_base ho0) hb)
 replace HO599 := am (Kd.V_elder' (pkv HO599.1) (Kd.R_base ho0) hb)
 replace HO605 := am (Kd.R_elder' (pkr HO605.1) (Kd.R_base ho0) hb)
 replace BK592 := bbh BK592 hb
 replace BK601 := bbh BK601 hb
 replace HB := bst hb
 (try clear hb)
 (try clear hb2)
 (try clear hk)
 (try clear hi)
 (try clear ho0)
 obtain ⟨Ao21, co21, eo21⟩ := Kd.R_slice HO605.1
 (first | subst eo21 | (injection eo21 with f1_ f2_ f3_; have f4_ := f1_.symm; have f5_ := f3_.symm; clear f1_ f2_ f3_; subst f4_; subst f5_))
 obtain ⟨Ao22, co22, eo22⟩ := Kd.R_slice HO608.1
 (first | subst eo22 | (injection eo22 with f1_ f2_ f3_; have f4_ := f1_.symm; have f5_ := f3_.symm; clear f1_ f2_ f3_; subst f4_; subst f5_))
 refine hK.out _ _ ⟨(blk_cell BK601.1 0).trans rfl, (blk_cell BK601.1 1).trans rfl, (blk_cell BK601.1 2).trans rfl⟩ (fun hHeld => ?_)
 clear hK K
 refine nm_ ?_
 refine on HT_.1 4 (some 17) fun K hK => ?_
 refine goes_ Try.func28 (by kernel_rfl) rfl #[.slice Ao21 t603.length co21, .slice Ao22 t606.length co22] (by rfl) rfl rfl pgz ?_
 with_reducible refine (r48_Same.calls k _ _ t603 _ _ t606 true _ ?side1 ?side2 ?side3 ?side4 A6.1).mono ?_
 (case side1 => exact csd ((Kd.R_reads' HO605.1).2.2))
 (case side2 => exact (Kd.R_reads' HO605.1).2.1)
 (case side3 => exact csd ((Kd.R_reads' HO608.1).2.2))
 (case side4 => exact (Kd.R_reads' HO608.1).2.1)
 rintro e w' ⟨rfl, ⟨nd, rfl⟩⟩
 refine ⟨_, rfl, ?_⟩
 refine hK.out _ _ ⟨(blk_cell BK601.1 0).trans rfl, (blk_cell BK601.1 1).trans rfl, (blk_cell BK601.1 2).trans rfl⟩ (fun hHeld => ?_)
 clear hK K
 refine nm_ ?_
 refine pu HT_.1 5 18 ?_
 refine on HT_.1 6 (some 19) fun K hK => ?_
 refine goes_ Try.func10 (by kernel_rfl) rfl #[] (by rfl) rfl rfl pgz ?_
 with_reducible refine (petrinetlaw13_alive.calls k  t610 _ A8.1).mono ?_
 rintro e w23 ⟨rfl, hb⟩
 refine ⟨_, rfl, ?_⟩
 replace HO596 := vbw HO596 hb
 replace HO599 := vbw HO599 hb
 replace HO605 := rbw HO605 hb
 replace HO608 := rbw HO608 hb
 replace BK592 := bbh BK592 hb
 replace BK601 := bbh BK601 hb
 replace HB := bst hb
 (try clear hb)
 (try clear hb2)
 (try clear hk)
 (try clear hi)
 refine hK.out _ _ ⟨(blk_cell BK601.1 0).trans rfl, (blk_cell BK601.1 1).trans rfl, (blk_cell BK601.1 2).trans rfl⟩ (fun hHeld => ?_)
 clear hK K
 refine nm_ ?_
 refine pu HT_.1 7 20 ?_
 refine pu HT_.1 8 2 ?_
 refine done_ (done_of HT_.1 (by kernel_rfl)) ?_
 try go_wp2
 go_ret
 exact ⟨per, pbg⟩

end Go.Proofs.Ytplljicodflagaa.P
