-- LAID BY OUR PROGRAM OVER THE PRINT (xprint.py, part.py): Lean checks it.
import Derived.Test.YtaoogghpadifiaaPx0
import Derived.Test.YtaoogghpadifiaaPx4
import Derived.Test.YtaoogghpadifiaaCopy
import Derived.LoopIn
import Derived.LoopNIn
import Derived.OwnWalkIn
import Derived.RangeFuncBound
import Derived.RangeFuncCalls
import Derived.RangeFuncIn
import Derived.RangeFuncKeeps
import Derived.RangeFuncLeaves
import Derived.RangeFuncNested
import Derived.RangeFuncRecord
import Derived.Shelf.Abstract
import Derived.Sort.LoopGhostIn
import Derived.TacticsInMore
import Derived.WalkMore
import Derived.Test.YtaoogghpadifiaaShift
namespace Go.Proofs.Ytaoogghpadifiaa.P
open Go.RowKit Go.Proofs.YtaoogghpadifiaaW.PrintWords Go.Proofs.YtaoogghpadifiaaW.PrintLast Go.Proofs.YtaoogghpadifiaaW.PrintMore
attribute [local go_sem] max2_int min2_int max_two min_two max_three min_three max_four min_four   -- for this text's walks alone
set_option maxHeartbeats 8000000
set_option maxRecDepth 100000
set_option linter.unusedVariables false
set_option linter.unusedSimpArgs false

/-! ### qAJ: function 82 -/
def qAJ.f (k : Nat) (ae : ByteArray) (ab : List (S64)) (ac : List (S38)) (l1 : List Int) : Option (Bool) := (qBE.f k ae ab ac).bind fun aq => (if aq = true then ((qAN.f k l1 (ab.length : Int)).bind fun ar => (some ar)) else (some false))
theorem qAJ.mono : ∀ a0 a1 a2 a3 k, LeO (qAJ.f k a0 a1 a2 a3) (qAJ.f (k + 1) a0 a1 a2 a3) := by
 intro a0 a1 a2 a3 k
 unfold qAJ.f
 repeat' first | (with_reducible first | apply qBE.mono | apply qAN.mono | apply lr | apply ln | apply li | refine lb ?_ fun _ => ?_)
theorem qAJ.calls (k : Nat) (ae : ByteArray) (au : Option Addr) (ax : Nat) (ab : List (S64)) (av : Option Addr) (ay : Nat) (ac : List (S38)) (A1 : Option Addr) (c1 : Nat) (l1 : List Int) (r : Bool) (w : World) (ao : Kd.C k64 w au ab.length ab) (ak : ab.length ≤ ax) (ap : Kd.C k38 w av ac.length ac) (al : ac.length ≤ ay) (hr1 : Kd.C (Kd.int .i64) w A1 l1.length l1) (aA : l1.length ≤ c1) (h : qAJ.f k ae ab ac l1 = some r) :
  Calls Try.prog 82 #[.agg #[.string ae, .slice au ab.length ax, .slice av ac.length ay], .slice A1 l1.length c1] w fun e w' => e = .returned (.bool r) ∧ Below w.heap.size w w' := by
 have aD := Try.underlying25
 have ai := am ao
 have ag := am ak
 clear ao ak
 have aj := am ap
 have ah := am al
 clear ap al
 have aC := am hr1
 have aB := am aA
 clear hr1 aA
 have HB := am (Below.refl w.heap.size w)
 have H := h
 unfold qAJ.f at H
 clear h
 replace H := bnd H
 obtain ⟨aq, A3, H⟩ := H
 (try dsimp only at H)
 cases aq
 ·rw [if_neg Bool.false_ne_true] at H
  obtain rfl := Option.some.inj H
  go_enter Try.func82, Try.ntmps82
  go_wp2_with (first | ((with_reducible refine qBN (N := 2) rfl ?_); (try (refine qBP (by rfl) ?_; dsimp only)); refine box_ev ?_; intro az hg aG hbox hb; have aa := am hbox; have af := gwl hg; have aw := af; replace HB := bsl hb; clear hb hbox hg; have aE := cf3 aa.1) | ((with_reducible refine qBO (f := 63) rfl ?_); refine gC 6 Try.func63 _ (qBE.calls k ae _ _ ab _ _ ac false _ (csb ai HB) ag.1 (csb aj HB) ah.1 A3.1) ?_; rintro e aH ⟨rfl, hb⟩; refine ⟨_, rfl, ?_⟩; replace aa := bbh aa hb; replace HB := bst hb; (try clear hb)))
  go_ret
  exact ⟨per, pbg⟩
 rw [if_pos rfl] at H
 replace H := bnd H
 obtain ⟨ar, A5, H⟩ := H
 (try dsimp only at H)
 obtain rfl := Option.some.inj H
 go_enter Try.func82, Try.ntmps82
 go_wp2_with (first | ((with_reducible refine qBN (N := 2) rfl ?_); (try (refine qBP (by rfl) ?_; dsimp only)); refine box_ev ?_; intro az hg w6 hbox hb; have aa := am hbox; have af := gwl hg; have aw := af; replace HB := bsl hb; clear hb hbox hg; have aI := cf3 aa.1) | ((with_reducible refine qBO (f := 63) rfl ?_); refine gC 6 Try.func63 _ (qBE.calls k ae _ _ ab _ _ ac true _ (csb ai HB) ag.1 (csb aj HB) ah.1 A3.1) ?_; rintro e w8 ⟨rfl, hb⟩; refine ⟨_, rfl, ?_⟩; replace aa := bbh aa hb; replace HB := bst hb; (try clear hb); have aJ := cf3 aa.1) | (go_at_call 69; (with_reducible refine (qAN.calls k _ _ l1 (ab.length : Int) ar _ ?side1 ?side2 A5.1).mono ?_); (case side1 => exact csb aC HB); (case side2 => exact aB.1); rintro e aF ⟨rfl, hb⟩; replace aa := bbh aa hb; replace HB := bst hb; (try clear hb)))
 go_ret
 exact ⟨per, pbg⟩

/-! ### qAE: function 46 -/
def qAE.l0 : Nat → List Int → List Int → List (S38) → Int → Int → Option (List Int)
 | 0, _, _, _, _, _ => none
 | k + 1, x1, x5, x13, x14, x15 => if x15 < x14 then (if 0 ≤ x15 then (if x15 < (x13.length : Int) then ((qAF.f k ((rd_T38 x13 x15).f0) ((rd_T38 x13 x15).f1) ((rd_T38 x13 x15).f2) ((rd_T38 x13 x15).f3) ((rd_T38 x13 x15).f4) x1).bind fun a9 => (if a9 = true then (if x5.length < 17592186044416 then (qAE.l0 k x1 (x5 ++ [x15]) x13 x14 (wrap64 (x15 + 1))) else (none)) else (qAE.l0 k x1 x5 x13 x14 (wrap64 (x15 + 1))))) else (none)) else (none)) else (some x5)
def qAE.f (k : Nat) (ax : ByteArray) (ai : List (S64)) (ac : List (S38)) (l1 : List Int) : Option (List Int) := (qAJ.f k ax ai ac l1).bind fun a8 => (if a8 = true then (qAE.l0 k l1 ([] : List Int) ac (ac.length : Int) 0) else (some ([] : List Int)))
theorem qAE.mono_l : ∀ k, M5 qAE.l0 k
 | 0 => fun _ _ _ _ _ r h => by simp [qAE.l0] at h
 | k + 1 => by
  have bm := qAE.mono_l k
  ·intro y0 y1 y2 y3 y4
   unfold qAE.l0
   repeat' first | (with_reducible first | apply bm | apply qAF.mono | apply qAJ.mono | apply lr | apply ln | apply li | refine lb ?_ fun _ => ?_)
theorem qAE.mono : ∀ a0 a1 a2 a3 k, LeO (qAE.f k a0 a1 a2 a3) (qAE.f (k + 1) a0 a1 a2 a3) := by
 intro a0 a1 a2 a3 k
 have bm := qAE.mono_l k
 unfold qAE.f
 repeat' first | (with_reducible first | apply bm | apply qAF.mono | apply qAJ.mono | apply lr | apply ln | apply li | refine lb ?_ fun _ => ?_)
theorem qAE.calls (k : Nat) (ax : ByteArray) (aZ : Option Addr) (a5 : Nat) (ai : List (S64)) (a4 : Option Addr) (a6 : Nat) (ac : List (S38)) (A1 : Option Addr) (c1 : Nat) (l1 : List Int) (r : List Int) (w : World) (aX : Kd.C k64 w aZ ai.length ai) (aV : ai.length ≤ a5) (aY : Kd.C k38 w a4 ac.length ac) (aW : ac.length ≤ a6) (hr1 : Kd.C (Kd.int .i64) w A1 l1.length l1) (bu : l1.length ≤ c1) (h : qAE.f k ax ai ac l1 = some r) :
  Calls Try.prog 46 #[.agg #[.string ax, .slice aZ ai.length a5, .slice a4 ac.length a6], .slice A1 l1.length c1] w fun e w' => ∃ v0_ : Value, e = .returned (v0_) ∧ Kd.R (Kd.int .i64) 3 w' w.heap.size (fun _ => True) v0_ r ∧ Below w.heap.size w w' := by
 have bA := Try.underlying25
 have bB := Try.underlying38
 have aT := am aX
 have aQ := am aV
 clear aX aV
 have aC := am aY
 have aR := am aW
 clear aY aW
 have bk := am hr1
 have bi := am bu
 clear hr1 bu
 have HB := am (Below.refl w.heap.size w)
 have H := h
 unfold qAE.f at H
 clear h
 replace H := bnd H
 obtain ⟨a8, A3, H⟩ := H
 (try dsimp only at H)
 cases a8
 ·rw [if_neg Bool.false_ne_true] at H
  obtain rfl := Option.some.inj H
  go_enter Try.func46, Try.ntmps46
  go_wp2_with (first | ((with_reducible refine qBN (N := 2) rfl ?_); refine box_ev ?_; intro aU hg bO hbox hb; have ab := am hbox; have aE := gwl hg; have ba := aE; replace HB := bsl hb; clear hb hbox hg; have bG := cf3 ab.1) | ((with_reducible refine qBO (f := 82) rfl ?_); refine gC 10 Try.func82 _ (qAJ.calls k ax _ _ ai _ _ ac _ _ l1 false _ (csb aT HB) aQ.1 (csb aC HB) aR.1 (csb bk HB) bi.1 A3.1) ?_; rintro e bP ⟨rfl, hb⟩; refine ⟨_, rfl, ?_⟩; replace ab := bbh ab hb; replace HB := bst hb; (try clear hb)))
  go_ret
  exact ⟨_, per, knl, pbg⟩
 rw [if_pos rfl] at H
 have H' := am H
 clear H
 go_enter Try.func46, Try.ntmps46
 go_wp2_with (first | ((with_reducible refine qBN (N := 2) rfl ?_); refine box_ev ?_; intro aU hg w5 hbox hb; have ab := am hbox; have aE := gwl hg; have ba := aE; replace HB := bsl hb; clear hb hbox hg; have bH := cf3 ab.1) | ((with_reducible refine qBO (f := 82) rfl ?_); refine gC 10 Try.func82 _ (qAJ.calls k ax _ _ ai _ _ ac _ _ l1 true _ (csb aT HB) aQ.1 (csb aC HB) aR.1 (csb bk HB) bi.1 A3.1) ?_; rintro e w7 ⟨rfl, hb⟩; refine ⟨_, rfl, ?_⟩; replace ab := bbh ab hb; replace HB := bst hb; (try clear hb); have bI := cf3 ab.1))
 go_loopg [5, 15] k (fun kq v5 bC w' => ∃ (aD : List Int) (aa : Int), bC = .int .i64 aa ∧ Aside0 (qAE.l0 kq l1 aD ac (ac.length : Int) aa = some r) ∧ Aside0 (kq ≤ k) ∧ Aside0 (Kd.R (Kd.int .i64) 3 w' w.heap.size (fun _ => True) v5 aD) ∧ Aside0 (w'.heap[aU]? = some (.cells #[.string ax, (.slice aZ ai.length a5), (.slice a4 ac.length a6)] 25 (0, 0))) ∧ Aside0 (Below w.heap.size w w'))
 case atStart => exact ⟨(([] : List Int)), (0), prs, H', ⟨Nat.le_refl _⟩, ⟨knl⟩, ⟨pbk ab.1⟩, ⟨pbg⟩⟩
 clear H'
 try clear c1 bH bI
 obtain ⟨aD, aa, rfl, HA, bj, ag, ab, HB⟩ := hrel
 obtain _ | k1 := gk
 ·exact absurd HA.1 (by simp [qAE.l0])
 have H := HA.1
 clear HA
 simp only [qAE.l0] at H
 replace H := ifl H
 rcases H with ⟨bl, H⟩ | ⟨bl, H⟩
 rotate_left
 ·obtain rfl := Option.some.inj H
  go_wp2
  go_ret
  exact ⟨_, per, pkr ag.1, pbg⟩
 replace H := ifd H
 obtain ⟨bp, H⟩ := H
 replace H := ifd H
 obtain ⟨br, H⟩ := H
 replace H := bnd H
 obtain ⟨a9, A12, H⟩ := H
 (try dsimp only at H)
 cases a9
 ·rw [if_neg Bool.false_ne_true] at H
  have H' := am H
  clear H
  obtain ⟨bn, bo, bg, au, ay, av, az, aw, aA, a7, aI, aJ, aK, aM, aN, aj, ao, ak, ap, al, aq⟩ := bT38 aC.1 HB.1 aa
  cases a7
  go_wp2_with (first | ((with_reducible refine qBN (N := 7) rfl ?_); refine box_ev (N := 7) (cs := #[.string (⟨#[]⟩ : ByteArray), .slice none 0 0, .slice none 0 0, .slice none 0 0, .int .i64 0]) (t := 38) ?_; intro ar hg bM hbox hb; have af := am hbox; have aG := gwb hg; have bb := aG; have ae := nlt hg ab; have ah := ngt hg ab; replace ag := rbw ag hb; replace ab := bbh ab hb; replace HB := bst hb; clear hb hbox hg; have bw := ah.1; have bz := ae.1; have bF := cf5 af.1) | ((with_reducible refine qBO (f := 83) rfl ?_); refine gC 22 Try.func83 _ (qAF.calls k1 ((rd_T38 ac aa).f0) _ _ ((rd_T38 ac aa).f1) _ _ ((rd_T38 ac aa).f2) _ _ ((rd_T38 ac aa).f3) ((rd_T38 ac aa).f4) _ _ l1 false _ (Kd.qCG ao.1 pbg) aj.1 (Kd.qCG ap.1 pbg) ak.1 (Kd.qCG aq.1 pbg) al.1 (Kd.qCG bk.1 pbg) bi.1 A12.1) ?_; rintro e bN ⟨rfl, hb⟩; refine ⟨_, rfl, ?_⟩; replace ag := am (Kd.R_below (by (with_reducible repeat (first | apply Kd.R_alloc | apply Kd.R_drewN | apply Kd.R_drew)); exact (Kd.R_mono (fR5 ar (Kd.qCI ag.1 af.1 (by decide)) (fun _ hk => hk.2)) (fun _ h_ => h_.1))) hb); replace ab := bbx ab (fun h_ => by (with_reducible repeat (first | refine qBK ?_ _ | refine qBM ?_ | refine qBL ?_ _)); refine bf5 ?_ ae.1; exact pbk h_) hb; replace af := am (qCF (g := ar) (o := .cells #[.string ((rd_T38 ac aa).f0), .slice au ((rd_T38 ac aa).f1).length ay, .slice av ((rd_T38 ac aa).f2).length az, .slice aw ((rd_T38 ac aa).f3).length aA, .int .i64 ((rd_T38 ac aa).f4)] 38 (0, 0)) (by (with_reducible repeat (first | refine qBK ?_ _ | refine qBM ?_ | refine qBL ?_ _)); exact bp5 (pbk af.1)) hb); replace HB := bst hb; (try clear hb); (try clear hk)))
  go_roundg k1
  case measure => have := bj.1; omega
  case rel => exact ⟨(aD), (wrap64 (aa + 1)), prs, H', ⟨by have := bj.1; omega⟩, ⟨pkr ag.1⟩, ⟨pbk ab.1⟩, ⟨pbg⟩⟩
 rw [if_pos rfl] at H
 replace H := ifp H
 obtain ⟨bs, H⟩ := H
 have bd := am bs
 clear bs
 obtain ⟨bh, aH⟩ : ∃ y_ : List Int, y_ = (aD ++ [aa]) := ⟨_, rfl⟩
 replace H : (qAE.l0 k1 l1 bh ac (ac.length : Int) (wrap64 (aa + 1))) = some r := hrp aH H
 have bf := am aH
 clear aH
 have H' := am H
 clear H
 obtain ⟨bn, bo, bg, au, ay, av, az, aw, aA, a7, aI, aJ, aK, aM, aN, aj, ao, ak, ap, al, aq⟩ := bT38 aC.1 HB.1 aa
 cases a7
 go_wp2_with (first | ((with_reducible refine qBN (N := 7) rfl ?_); refine box_ev (N := 7) (cs := #[.string (⟨#[]⟩ : ByteArray), .slice none 0 0, .slice none 0 0, .slice none 0 0, .int .i64 0]) (t := 38) ?_; intro ar hg bJ hbox hb; have af := am hbox; have aG := gwb hg; have bb := aG; have ae := nlt hg ab; have ah := ngt hg ab; replace ag := rbw ag hb; replace ab := bbh ab hb; replace HB := bst hb; clear hb hbox hg; have bv := ah.1; have bx := ae.1; have bE := cf5 af.1) | ((with_reducible refine qBO (f := 83) rfl ?_); refine gC 22 Try.func83 _ (qAF.calls k1 ((rd_T38 ac aa).f0) _ _ ((rd_T38 ac aa).f1) _ _ ((rd_T38 ac aa).f2) _ _ ((rd_T38 ac aa).f3) ((rd_T38 ac aa).f4) _ _ l1 true _ (Kd.qCG ao.1 pbg) aj.1 (Kd.qCG ap.1 pbg) ak.1 (Kd.qCG aq.1 pbg) al.1 (Kd.qCG bk.1 pbg) bi.1 A12.1) ?_; rintro e bK ⟨rfl, hb⟩; refine ⟨_, rfl, ?_⟩; replace ag := am (Kd.R_below (by (with_reducible repeat (first | apply Kd.R_alloc | apply Kd.R_drewN | apply Kd.R_drew)); exact (Kd.R_mono (fR5 ar (Kd.qCI ag.1 af.1 (by decide)) (fun _ hk => hk.2)) (fun _ h_ => h_.1))) hb); replace ab := bbx ab (fun h_ => by (with_reducible repeat (first | refine qBK ?_ _ | refine qBM ?_ | refine qBL ?_ _)); refine bf5 ?_ ae.1; exact pbk h_) hb; replace af := am (qCF (g := ar) (o := .cells #[.string ((rd_T38 ac aa).f0), .slice au ((rd_T38 ac aa).f1).length ay, .slice av ((rd_T38 ac aa).f2).length az, .slice aw ((rd_T38 ac aa).f3).length aA, .int .i64 ((rd_T38 ac aa).f4)] 38 (0, 0)) (by (with_reducible repeat (first | refine qBK ?_ _ | refine qBM ?_ | refine qBL ?_ _)); exact bp5 (pbk af.1)) hb); replace HB := bst hb; (try clear hb); (try clear hk)) | ((with_reducible refine qBQ (b := .append) (xs := #[.tmp 23, .tmp 25]) rfl ?_); at_builtin; refine Kd.R_append (Kd.int .i64) (w0 := w) w.heap.size rfl (.tmp 23) (.tmp 25) 39 3 (.int .i64 0) 8 rfl Try.underlying39 info3 rfl (by decide) (by omega) u5 aD aa [.int .i64 aa] (fun _ => True) (fun _ => False) rfl rfl ?aP (fun _ hk => hk.elim) ?aF ?aO ?aB ?aS ?aL ?_; (case aP => exact rfl); (case aB => exact pbg); (case aF => exact (fun _ _ => trivial)); (case aO => exact (pkr ag.1)); (case aS => exact (qBJ pbg)); (case aL => have := bd.1; omega); intro bD bL ho hb hg hat; rw [← bf.1] at ho; have bc := am ho; replace ab := (bgr ab hg (Kd.R_ne ag.1 ab.1 (by decide))); replace af := (bgr af hg (Kd.R_ne ag.1 af.1 (by decide))); replace HB := am hb; clear ag; clear ho hb hg hat))
 go_roundg k1
 case measure => have := bj.1; omega
 case rel => exact ⟨(bh), (wrap64 (aa + 1)), prs, H', ⟨by have := bj.1; omega⟩, ⟨pkr bc.1⟩, ⟨pbk ab.1⟩, ⟨pbg⟩⟩

/-! ### net_Initial: function 64 -/
def net_Initial.l0 : Nat → List Int → List (S64) → Int → Int → Option (List Int)
 | 0, _, _, _, _ => none
 | k + 1, x3, x10, x11, x12 => if x12 < x11 then (if 0 ≤ x12 then (if x12 < (x10.length : Int) then (if x3.length < 17592186044416 then (net_Initial.l0 k (x3 ++ [(rd_T64 x10 x12).f1]) x10 x11 (wrap64 (x12 + 1))) else (none)) else (none)) else (none)) else (some x3)
def net_Initial.f (k : Nat) (ai : ByteArray) (ab : List (S64)) (ae : List (S38)) : Option (List Int) := (net_valid.f k ai ab ae).bind fun aH => (if aH = true then (net_Initial.l0 k ([] : List Int) ab (ab.length : Int) 0) else (some ([] : List Int)))
theorem net_Initial.mono_l : ∀ k, M4 net_Initial.l0 k
 | 0 => fun _ _ _ _ r h => by simp [net_Initial.l0] at h
 | k + 1 => by
  have aX := net_Initial.mono_l k
  ·intro y0 y1 y2 y3
   unfold net_Initial.l0
   repeat' first | (with_reducible first | apply aX | apply net_valid.mono | apply lr | apply ln | apply li | refine lb ?_ fun _ => ?_)
theorem net_Initial.mono : ∀ a0 a1 a2 k, LeO (net_Initial.f k a0 a1 a2) (net_Initial.f (k + 1) a0 a1 a2) := by
 intro a0 a1 a2 k
 have aX := net_Initial.mono_l k
 unfold net_Initial.f
 repeat' first | (with_reducible first | apply aX | apply net_valid.mono | apply lr | apply ln | apply li | refine lb ?_ fun _ => ?_)
theorem net_Initial.calls (k : Nat) (ai : ByteArray) (aC : Option Addr) (aE : Nat) (ab : List (S64)) (aD : Option Addr) (aG : Nat) (ae : List (S38)) (r : List Int) (w : World) (az : Kd.C k64 w aC ab.length ab) (ax : ab.length ≤ aE) (aA : Kd.C k38 w aD ae.length ae) (ay : ae.length ≤ aG) (h : net_Initial.f k ai ab ae = some r) :
  Calls Try.prog 64 #[.agg #[.string ai, .slice aC ab.length aE, .slice aD ae.length aG]] w fun e w' => ∃ v0_ : Value, e = .returned (v0_) ∧ Kd.R (Kd.int .i64) 3 w' w.heap.size (fun _ => True) v0_ r ∧ Below w.heap.size w w' := by
 have a9 := Try.underlying25
 have ba := Try.underlying64
 have al := am az
 have aq := am ax
 clear az ax
 have au := am aA
 have ar := am ay
 clear aA ay
 have HB := am (Below.refl w.heap.size w)
 have H := h
 unfold net_Initial.f at H
 clear h
 replace H := bnd H
 obtain ⟨aH, A2, H⟩ := H
 (try dsimp only at H)
 cases aH
 ·rw [if_neg Bool.false_ne_true] at H
  obtain rfl := Option.some.inj H
  go_enter Try.func64, Try.ntmps64
  go_wp2_with (first | ((with_reducible refine qBN (N := 1) rfl ?_); refine box_ev ?_; intro av hg bm hbox hb; have aa := am hbox; have ak := gwl hg; have aI := ak; replace HB := bsl hb; clear hb hbox hg; have bh := cf3 aa.1) | ((with_reducible refine qBO (f := 96) rfl ?_); refine gC 7 Try.func96 _ (net_valid.calls k ai _ _ ab _ _ ae false _ (csb al HB) aq.1 (csb au HB) ar.1 A2.1) ?_; rintro e bn ⟨rfl, hb⟩; refine ⟨_, rfl, ?_⟩; replace aa := bbh aa hb; replace HB := bst hb; (try clear hb)))
  go_ret
  exact ⟨_, per, knl, pbg⟩
 rw [if_pos rfl] at H
 have H' := am H
 clear H
 go_enter Try.func64, Try.ntmps64
 go_wp2_with (first | ((with_reducible refine qBN (N := 1) rfl ?_); refine box_ev ?_; intro av hg w4 hbox hb; have aa := am hbox; have ak := gwl hg; have aI := ak; replace HB := bsl hb; clear hb hbox hg; have bi := cf3 aa.1) | ((with_reducible refine qBO (f := 96) rfl ?_); refine gC 7 Try.func96 _ (net_valid.calls k ai _ _ ab _ _ ae true _ (csb al HB) aq.1 (csb au HB) ar.1 A2.1) ?_; rintro e w6 ⟨rfl, hb⟩; refine ⟨_, rfl, ?_⟩; replace aa := bbh aa hb; replace HB := bst hb; (try clear hb); have bj := cf3 aa.1))
 go_loopg [3, 12] k (fun kq v3 bd w' => ∃ (ap : List Int) (ac : Int), bd = .int .i64 ac ∧ Aside0 (net_Initial.l0 kq ap ab (ab.length : Int) ac = some r) ∧ Aside0 (kq ≤ k) ∧ Aside0 (Kd.R (Kd.int .i64) 3 w' w.heap.size (fun _ => True) v3 ap) ∧ Aside0 (w'.heap[av]? = some (.cells #[.string ai, (.slice aC ab.length aE), (.slice aD ae.length aG)] 25 (0, 0))) ∧ Aside0 (Below w.heap.size w w'))
 case atStart => exact ⟨(([] : List Int)), (0), prs, H', ⟨Nat.le_refl _⟩, ⟨knl⟩, ⟨pbk aa.1⟩, ⟨pbg⟩⟩
 clear H'
 try clear bi bj
 obtain ⟨ap, ac, rfl, HA, aZ, ah, aa, HB⟩ := hrel
 obtain _ | k1 := gk
 ·exact absurd HA.1 (by simp [net_Initial.l0])
 have H := HA.1
 clear HA
 simp only [net_Initial.l0] at H
 replace H := ifl H
 rcases H with ⟨aV, H⟩ | ⟨aV, H⟩
 rotate_left
 ·obtain rfl := Option.some.inj H
  go_wp2
  go_ret
  exact ⟨_, per, pkr ah.1, pbg⟩
 replace H := ifd H
 obtain ⟨a8, H⟩ := H
 replace H := ifd H
 obtain ⟨a4, H⟩ := H
 replace H := ifp H
 obtain ⟨a5, H⟩ := H
 have aM := am a5
 clear a5
 obtain ⟨aQ, ao⟩ : ∃ y_ : List Int, y_ = (ap ++ [(rd_T64 ab ac).f1]) := ⟨_, rfl⟩
 replace H : (net_Initial.l0 k1 aQ ab (ab.length : Int) (wrap64 (ac + 1))) = some r := hrp ao H
 have aN := am ao
 clear ao
 have H' := am H
 clear H
 obtain ⟨bb, bc, a3, aW, aR, aT, aU⟩ := bT64 al.1 HB.1 ac
 cases aW
 go_wp2_with (first | ((with_reducible refine qBN (N := 5) rfl ?_); refine box_ev (N := 5) (cs := #[.string (⟨#[]⟩ : ByteArray), .int .i64 0, .int .i64 0]) (t := 64) ?_; intro aw hg bk hbox hb; have ag := am hbox; have aJ := gwb hg; have aY := aJ; have af := nlt hg aa; have aj := ngt hg aa; replace ah := rbw ah hb; replace aa := bbh aa hb; replace HB := bst hb; clear hb hbox hg; have a6 := aj.1; have a7 := af.1; have bg := cf3 ag.1) | ((with_reducible refine qBQ (b := .append) (xs := #[.tmp 16, .tmp 19]) rfl ?_); at_builtin; refine Kd.R_append (Kd.int .i64) (w0 := w) w.heap.size rfl (.tmp 16) (.tmp 19) 39 3 (.int .i64 0) 8 rfl Try.underlying39 info3 rfl (by decide) (by omega) u3 ap ((rd_T64 ab ac).f1) [.int .i64 ((rd_T64 ab ac).f1)] (fun _ => True) (fun _ => False) rfl (by first | (go_simp; done) | (go_simp; rfl)) ?aP (fun _ hk => hk.elim) ?aF ?aO ?aB ?aS ?aL ?_; (case aP => exact rfl); (case aB => exact pbg); (case aF => exact (fun _ _ => trivial)); (case aO => exact (by (with_reducible repeat (first | apply Kd.R_alloc | apply Kd.R_drewN | apply Kd.R_drew)); exact Kd.R_mono (fR3 aw (Kd.qCI ah.1 ag.1 (by decide)) (fun _ hk => hk.2)) (fun _ hk => trivial))); (case aS => exact (qBJ pbg)); (case aL => have := aM.1; omega); intro bf bl ho hb hg hat; rw [← aN.1] at ho; have aK := am ho; replace aa := (bgx aa (fun h_ => by (with_reducible repeat (first | refine qBK ?_ _ | refine qBM ?_ | refine qBL ?_ _)); refine bf3 ?_ af.1; exact pbk h_) hg (Kd.R_ne ah.1 aa.1 (by decide))); replace ag := am (blk_grown (g := aw) (o := .cells #[.string ((rd_T64 ab ac).f0), .int .i64 ((rd_T64 ab ac).f1), .int .i64 ((rd_T64 ab ac).f2)] 64 (0, 0)) (by (with_reducible repeat (first | refine qBK ?_ _ | refine qBM ?_ | refine qBL ?_ _)); exact bp3 (pbk ag.1)) hg (Kd.R_ne ah.1 ag.1 (by decide))); replace HB := am hb; clear ah; clear ho hb hg hat))
 go_roundg k1
 case measure => have := aZ.1; omega
 case rel => exact ⟨(aQ), (wrap64 (ac + 1)), prs, H', ⟨by have := aZ.1; omega⟩, ⟨pkr aK.1⟩, ⟨pbk aa.1⟩, ⟨pbg⟩⟩

/-! ### qAD: function 97 -/
-- IMPORTS Derived.Test.YtaoogghpadifiaaCopy
mutual
def qAD.l0 : Nat → List Int → List (S68) → Int → Int → ByteArray → List (S68) → List (S68) → List (S68) → Int → Option (List Int × Bool)
 | 0, _, _, _, _, _, _, _, _, _ => none
 | k + 1, x6, bK, dv, bI, bl, bm, aO, bn, bo => if bI < dv then (if 0 ≤ bI then (if bI < (bK.length : Int) then (if 0 ≤ ((rd_T68 bK bI).f0) then (if ((rd_T68 bK bI).f0) < (x6.length : Int) then (if (rd x6 ((rd_T68 bK bI).f0)) = (-1) then (qAD.l0 k x6 bK dv (wrap64 (bI + 1)) bl bm aO bn bo) else (qAD.l0 k (x6.set (((rd_T68 bK bI).f0) : Int).toNat (wrap64 ((rd x6 ((rd_T68 bK bI).f0)) - ((rd_T68 bK bI).f1)))) bK dv (wrap64 (bI + 1)) bl bm aO bn bo)) else (none)) else (none)) else (none)) else (none)) else (qAD.l1 k x6 aO (aO.length : Int) 0)
def qAD.l1 : Nat → List Int → List (S68) → Int → Int → Option (List Int × Bool)
 | 0, _, _, _, _ => none
 | k + 1, x6, br, dw, bp => if bp < dw then (if 0 ≤ bp then (if bp < (br.length : Int) then (if 0 ≤ ((rd_T68 br bp).f0) then (if ((rd_T68 br bp).f0) < (x6.length : Int) then (if (rd x6 ((rd_T68 br bp).f0)) = (-1) then (if (rd x6 ((rd_T68 br bp).f0)) > 1048576 then (some (([] : List Int), false)) else (qAD.l1 k x6 br dw (wrap64 (bp + 1)))) else (if (wrap64 ((rd x6 ((rd_T68 br bp).f0)) + ((rd_T68 br bp).f1))) > 1048576 then (some (([] : List Int), false)) else (qAD.l1 k (x6.set (((rd_T68 br bp).f0) : Int).toNat (wrap64 ((rd x6 ((rd_T68 br bp).f0)) + ((rd_T68 br bp).f1)))) br dw (wrap64 (bp + 1))))) else (none)) else (none)) else (none)) else (none)) else (some (x6, true))
end
def qAD.f (k : Nat) (aL : ByteArray) (ai : List (S68)) (ab : List (S68)) (aH : List (S68)) (aM : Int) (l1 : List Int) : Option (List Int × Bool) := if 0 ≤ (l1.length : Int) then (if ((l1.length : Int) : Int).toNat ≤ 35184372088832 then (qAD.l0 k (cpy (List.replicate ((l1.length : Int) : Int).toNat 0) l1) ai (ai.length : Int) 0 aL ai ab aH aM) else (none)) else (none)
theorem qAD.mono_l : ∀ k, M9 qAD.l0 k ∧ M4 qAD.l1 k
 | 0 => ⟨fun _ _ _ _ _ _ _ _ _ r h => by simp [qAD.l0] at h, fun _ _ _ _ r h => by simp [qAD.l1] at h⟩
 | k + 1 => by
  obtain ⟨dm, dn⟩ := qAD.mono_l k
  refine ⟨?_, ?_⟩ <;> dsimp only [M4, M9] <;> intros <;> (first | unfold qAD.l0 | unfold qAD.l1) <;> repeat' first | (with_reducible first | apply dm | apply dn | apply lr | apply ln | apply li | refine lb ?_ fun _ => ?_)
theorem qAD.mono : ∀ a0 a1 a2 a3 a4 a5 k, LeO (qAD.f k a0 a1 a2 a3 a4 a5) (qAD.f (k + 1) a0 a1 a2 a3 a4 a5) := by
 intro a0 a1 a2 a3 a4 a5 k
 obtain ⟨dm, dn⟩ := qAD.mono_l k
 unfold qAD.f
 repeat' first | (with_reducible first | apply dm | apply dn | apply lr | apply ln | apply li | refine lb ?_ fun _ => ?_)
def qAD.T7 : Bool × List (List Nat × List Nat) := (true, [([], []), ([], []), ([1], [1]), ([0, 2], [0, 2]), ([3], [3]), ([], []), ([5], [5]), ([4, 6], [4, 6]), ([0, 2, 0, 1, 2, 3, 4, 5, 6, 7], [0, 2]), ([8, 7, 0, 1, 2, 3, 4, 5, 6, 7], [7, 8])])
def qAD.B7 : List Nat := [0, 0, 2, 7, 15, 0, 32, 127, 255, 511]
theorem qAD.tab7 : rtab .any (opsOf Try.f97 7) = qAD.T7 := by kernel_rfl
theorem qAD.bits7 : waitsOk qAD.T7.2 qAD.B7 = true := by kernel_rfl
def qAD.T13 : Bool × List (List Nat × List Nat) := (true, [([], []), ([], []), ([1], [1]), ([0, 2], [0, 2]), ([3], [3]), ([], []), ([5], [5]), ([4, 6], [4, 6]), ([0, 2, 0, 1, 2, 3, 4, 5, 6, 7], [0, 2]), ([8, 7, 0, 1, 2, 3, 4, 5, 6, 7], [7, 8])])
def qAD.B13 : List Nat := [0, 0, 2, 7, 15, 0, 32, 127, 255, 511]
theorem qAD.tab13 : rtab .any (opsOf Try.f97 13) = qAD.T13 := by kernel_rfl
theorem qAD.bits13 : waitsOk qAD.T13.2 qAD.B13 = true := by kernel_rfl
theorem qAD.calls (k : Nat) (aL : ByteArray) (bq : Option Addr) (a7 : Nat) (ai : List (S68)) (bs : Option Addr) (a8 : Nat) (ab : List (S68)) (a6 : Option Addr) (a9 : Nat) (aH : List (S68)) (aM : Int) (A1 : Option Addr) (c1 : Nat) (l1 : List Int) (r1 : List Int) (r2 : Bool) (w : World) (bX : Kd.C k68 w bq ai.length ai) (bU : ai.length ≤ a7) (bY : Kd.C k68 w bs ab.length ab) (bV : ab.length ≤ a8) (bZ : Kd.C k68 w a6 aH.length aH) (bW : aH.length ≤ a9) (hr1 : Kd.C (Kd.int .i64) w A1 l1.length l1) (dM : l1.length ≤ c1) (h : qAD.f k aL ai ab aH aM l1 = some (r1, r2)) :
  Calls Try.prog 97 #[.agg #[.string aL, .slice bq ai.length a7, .slice bs ab.length a8, .slice a6 aH.length a9, .int .i64 aM], .slice A1 l1.length c1] w fun e w' => ∃ v0_ : Value, e = .returned (.tuple #[v0_, .bool r2]) ∧ Kd.R (Kd.int .i64) 3 w' w.heap.size (fun _ => True) v0_ r1 ∧ Below w.heap.size w w' := by
 have d9 := Try.underlying38
 have ea := Try.underlying68
 have bM := am bX
 have dC := am bU
 clear bX bU
 have bh := am bY
 have dD := am bV
 clear bY bV
 have dF := am bZ
 have dE := am bW
 clear bZ bW
 have d5 := am hr1
 have em := am dM
 clear hr1 dM
 have HB := am (Below.refl w.heap.size w)
 have H := h
 unfold qAD.f at H
 clear h
 replace H := ifp H
 obtain ⟨c3, H⟩ := H
 have cy := eq_true c3
 have cz : decide (0 ≤ (l1.length : Int)) = true := decide_eq_true c3
 clear c3
 replace H := ifp H
 obtain ⟨c4, H⟩ := H
 have cB := eq_true c4
 have cC : decide (((l1.length : Int) : Int).toNat ≤ 35184372088832) = true := decide_eq_true c4
 clear c4
 obtain ⟨bJ, bE⟩ : ∃ y_ : List Int, y_ = (List.replicate ((l1.length : Int) : Int).toNat 0) := ⟨_, rfl⟩
 replace H : (qAD.l0 k (cpy bJ l1) ai (ai.length : Int) 0 aL ai ab aH aM) = some (r1, r2) := hrp bE H
 have bN := am bE
 clear bE
 obtain ⟨cN, bF⟩ : ∃ y_ : List Int, y_ = (cpy bJ l1) := ⟨_, rfl⟩
 replace H : (qAD.l0 k cN ai (ai.length : Int) 0 aL ai ab aH aM) = some (r1, r2) := hrp bF H
 have cm := am bF
 clear bF
 have H' := am H
 clear H
 go_enter Try.func97, Try.ntmps97
 go_wp2_with (first | ((with_reducible refine qBN (N := 2) rfl ?_); refine box_ev ?_; intro aX hg w5 hbox hb; have ac := am hbox; have ch := gwl hg; have dB := ch; replace HB := bsl hb; clear hb hbox hg) | ((with_reducible refine qBN (N := 13) rfl ?_); refine Kd.R_make (Kd.int .i64) _ 3 rfl (N := 13) rfl 39 _ _ rfl (l1.length : Int) rfl rfl Try.underlying39 (.int .i64 0) 8 info3 rfl (by decide) (by omega) 0 (ok := fun _ => True) (okp := fun _ => True) rfl (fun _ hk => hk) trivial (dq) (Nat.le_trans (Nat.mul_le_mul_right _ (dq : (l1.length : Int).toNat ≤ 35184372088832)) (by omega)) (Below.refl _ _) (Nat.le_refl _) ?_; intro ed w6 cF hb hg_ hnew_; clear hg_ hnew_; (first | rw [← bN.1] at cF | (simp only [Int.reduceToNat] at cF; rw [← bN.1] at cF)); have aU := am (Kd.qCH cF (qBJ pbg)); replace ac := bbh ac hb; replace HB := bst hb; clear hb cF; obtain ⟨cY, cf, d8⟩ := Kd.R_slice aU.1; subst d8) | ((with_reducible refine qBQ (b := .copy) (xs := #[.tmp 14, .tmp 15]) rfl ?_); refine R_copy (enc := Value.int .i64) (h1 := fun _ => rfl) (w0 := w) w.heap.size rfl (.tmp 14) (.tmp 15) 39 39 3 rfl Try.underlying39 (by kernel_rfl) (.slice cY bJ.length cf) bJ l1 (fun _ => True) A1 c1 rfl rfl (pkr aU.1) ?hC pbg (qBJ pbg) ?_; (case hC => exact csb d5 HB); intro w8 nw8_ ho hb hg; rw [← cm.1] at ho; replace ac := (bgr ac hg (Kd.R_ne aU.1 ac.1 (by decide))); replace aU := am ho; replace HB := am hb; clear ho hb hg; have cU := cf5 ac.1))
 go_loopg [20] k (fun kq ec w' => ∃ (aD : List Int) (ag : Int), ec = .int .i64 ag ∧ Aside0 (qAD.l0 kq aD ai (ai.length : Int) ag aL ai ab aH aM = some (r1, r2)) ∧ Aside0 (kq ≤ k) ∧ Aside0 (Kd.R (Kd.int .i64) 3 w' w.heap.size (fun _ => True) (.slice cY bJ.length cf) aD) ∧ Aside0 (w'.heap[aX]? = some (.cells #[.string aL, (.slice bq ai.length a7), (.slice bs ab.length a8), (.slice a6 aH.length a9), .int .i64 aM] 38 (0, 0))) ∧ Aside0 (Below w.heap.size w w'))
 case atStart => exact ⟨(cN), (0), prs, H', ⟨Nat.le_refl _⟩, ⟨pkr aU.1⟩, ⟨pbk ac.1⟩, ⟨pbg⟩⟩
 clear H'
 try clear c1 c3 cy cz c4 cB cC cU
 obtain ⟨aD, ag, rfl, HA, bL, af, ac, HB⟩ := hrel
 have ar := (Kd.qBR af.1).1
 rw [ar] at af
 (try simp only [ar])
 (try simp only [ar] at ac)
 obtain _ | k1 := gk
 ·exact absurd HA.1 (by simp [qAD.l0])
 have H := HA.1
 clear HA
 simp only [qAD.l0] at H
 replace H := ifl H
 rcases H with ⟨bi, H⟩ | ⟨bi, H⟩
 ·(try have c11b9_0 : decide (ag < (aD.length : Int)) = true := (by rw [← ar]; exact bi))
  skip
  replace H := ifd H
  obtain ⟨cp, H⟩ := H
  replace H := ifp H
  obtain ⟨de, H⟩ := H
  have bQ := decide_eq_true de
  (try have c13b9_0 : decide (ag < (aD.length : Int)) = true := (by rw [← ar]; exact bQ))
  clear de
  replace H := ifd H
  obtain ⟨cq, H⟩ := H
  replace H := ifd H
  obtain ⟨cr, H⟩ := H
  replace H := ife H
  rcases H with ⟨bR, bS, H⟩ | ⟨bR, bS, H⟩
  ·have H' := am H
   clear H
   obtain ⟨cG, cI, bP, b3, bj, bk⟩ := bT68 bM.1 HB.1 ag
   cases b3
   go_wp2_with (first | ((with_reducible refine qBN (N := 8) rfl ?_); refine box_ev ?_; intro ap hg eo hbox hb; have ax := am hbox; have bw := gwb hg; have cg := bw; have aE := nlt hg ac; have aK := ngt hg ac; replace af := rbw af hb; replace ac := bbh ac hb; replace HB := bst hb; clear hb hbox hg; have dN := aK.1; have dU := aE.1; have dx := cf2 ax.1; have aY : 0 ≤ (((rd_T68 ai ag).f0) : Int) := dq; have aZ : ((rd_T68 ai ag).f0) < (aD.length : Int) := dq; obtain ⟨aQ, b4, av⟩ := Kd.at_int (Kd.qBR af.1).2.2 ((rd_T68 ai ag).f0) aY aZ; cases b4; have ay : aQ.block ≠ ap := Kd.own_blk (Kd.R_ne af.1 ax.1 (by decide)); have az : aQ.block ≠ ap := Kd.own_blk (Kd.R_ne af.1 ax.1 (by decide)); replace av := (qCK (p := ⟨ap, 0, none⟩) (by first | (rw [qBU]; exact ay) | (show (Addr.add _ _).block ≠ _; rw [qBU]; exact ay) | exact ay) (.int .i64 ((rd_T68 ai ag).f0))).trans av; replace av := (qCK (p := ⟨ap, 1, none⟩) (by first | (rw [qBU]; exact az) | (show (Addr.add _ _).block ≠ _; rw [qBU]; exact az) | exact az) (.int .i64 ((rd_T68 ai ag).f1))).trans av; clear ay; clear az; replace aY := eq_true aY; replace aZ := eq_true aZ))
   (try simp only [← ar])
   go_roundg k1
   case measure => have := bL.1; omega
   case rel => exact ⟨(aD), (wrap64 (ag + 1)), prs, H', ⟨by have := bL.1; omega⟩, ⟨by (try simp only [ar]); (with_reducible repeat (first | apply Kd.R_alloc | apply Kd.R_drewN | apply Kd.R_drew)); exact Kd.R_mono (fR2 ap (Kd.qCI af.1 ax.1 (by decide)) (fun _ hk => hk.2)) (fun _ hk => trivial)⟩, ⟨by (try simp only [ar]); (with_reducible repeat (first | refine qBK ?_ _ | refine qBM ?_ | refine qBL ?_ _)); refine bf2 ?_ aE.1; exact pbk ac.1⟩, ⟨pbg⟩⟩
  obtain ⟨cO, bG⟩ : ∃ y_ : List Int, y_ = (aD.set (((rd_T68 ai ag).f0) : Int).toNat (wrap64 ((rd aD ((rd_T68 ai ag).f0)) - ((rd_T68 ai ag).f1)))) := ⟨_, rfl⟩
  replace H : (qAD.l0 k1 cO ai (ai.length : Int) (wrap64 (ag + 1)) aL ai ab aH aM) = some (r1, r2) := hrp bG H
  have cn := am bG
  clear bG
  have H' := am H
  clear H
  obtain ⟨cG, cI, bP, b3, bj, bk⟩ := bT68 bM.1 HB.1 ag
  cases b3
  try go_wp2_with (first | ((with_reducible refine qBN (N := 8) rfl ?_); refine box_ev ?_; intro ap hg cK hbox hb; have ax := am hbox; have bw := gwb hg; have cg := bw; have aE := nlt hg ac; have aK := ngt hg ac; replace af := rbw af hb; replace ac := bbh ac hb; replace HB := bst hb; clear hb hbox hg; have dO := aK.1; have dV := aE.1; have dy := cf2 ax.1; have aY : 0 ≤ (((rd_T68 ai ag).f0) : Int) := dq; have aZ : ((rd_T68 ai ag).f0) < (aD.length : Int) := dq; obtain ⟨aQ, b4, av⟩ := Kd.at_int (Kd.qBR af.1).2.2 ((rd_T68 ai ag).f0) aY aZ; cases b4; have ay : aQ.block ≠ ap := Kd.own_blk (Kd.R_ne af.1 ax.1 (by decide)); have az : aQ.block ≠ ap := Kd.own_blk (Kd.R_ne af.1 ax.1 (by decide)); replace av := (qCK (p := ⟨ap, 0, none⟩) (by first | (rw [qBU]; exact ay) | (show (Addr.add _ _).block ≠ _; rw [qBU]; exact ay) | exact ay) (.int .i64 ((rd_T68 ai ag).f0))).trans av; replace av := (qCK (p := ⟨ap, 1, none⟩) (by first | (rw [qBU]; exact az) | (show (Addr.add _ _).block ≠ _; rw [qBU]; exact az) | exact az) (.int .i64 ((rd_T68 ai ag).f1))).trans av; clear ay; clear az; replace aY := eq_true aY; replace aZ := eq_true aZ))
  have n0_ : Aside0 (Kd.R (Kd.int .i64) 3 ((cK.setCell ⟨ap, 0, none⟩ (.int .i64 ((rd_T68 ai ag).f0))).setCell ⟨ap, 1, none⟩ (.int .i64 ((rd_T68 ai ag).f1))) w.heap.size (fun _ => True) (.slice (some aQ) aD.length cf) aD) := ⟨by (with_reducible repeat (first | apply Kd.R_alloc | apply Kd.R_drewN | apply Kd.R_drew)); exact Kd.R_mono (fR2 ap (Kd.qCI af.1 ax.1 (by decide)) (fun _ hk => hk.2)) (fun _ hk => trivial)⟩
  have n1_ : Aside0 (((cK.setCell ⟨ap, 0, none⟩ (.int .i64 ((rd_T68 ai ag).f0))).setCell ⟨ap, 1, none⟩ (.int .i64 ((rd_T68 ai ag).f1))).heap[aX]? = some (.cells #[.string aL, .slice (some bP) ai.length a7, .slice bs ab.length a8, .slice a6 aH.length a9, .int .i64 aM] 38 (0, 0))) := ⟨by (with_reducible repeat (first | refine qBK ?_ _ | refine qBM ?_ | refine qBL ?_ _)); refine bf2 ?_ aE.1; exact pbk ac.1⟩
  have n2_ : Aside0 (((cK.setCell ⟨ap, 0, none⟩ (.int .i64 ((rd_T68 ai ag).f0))).setCell ⟨ap, 1, none⟩ (.int .i64 ((rd_T68 ai ag).f1))).heap[ap]? = some (.cells #[.int .i64 ((rd_T68 ai ag).f0), .int .i64 ((rd_T68 ai ag).f1)] 68 (0, 0))) := ⟨by (with_reducible repeat (first | refine qBK ?_ _ | refine qBM ?_ | refine qBL ?_ _)); exact bp2 (pbk ax.1)⟩
  have n3_ : Aside0 (Below w.heap.size w ((cK.setCell ⟨ap, 0, none⟩ (.int .i64 ((rd_T68 ai ag).f0))).setCell ⟨ap, 1, none⟩ (.int .i64 ((rd_T68 ai ag).f1)))) := ⟨pbg⟩
  (try clear af)
  (try clear ac)
  (try clear ax)
  (try clear HB)
  generalize ((cK.setCell ⟨ap, 0, none⟩ (.int .i64 ((rd_T68 ai ag).f0))).setCell ⟨ap, 1, none⟩ (.int .i64 ((rd_T68 ai ag).f1))) = ef at n0_ n1_ n2_ n3_ ⊢
  have af := n0_
  have ac := n1_
  have ax := n2_
  have HB := n3_
  clear n0_ n1_ n2_ n3_
  replace af := am (Kd.R_drew af.1)
  replace ac := am (qBM ac.1)
  replace ax := am (qBM ax.1)
  replace HB := am (qCB HB.1)
  obtain ⟨dp, dt, co, dj, aN⟩ := dint (Kd.qBR af.1).2.2 ((rd_T68 ai ag).f0)
  obtain rfl : aQ = co := (by injection dj)
  have cW : 0 ≤ (((rd_T68 ai ag).f0) : Int) := dq
  have cX : (((rd_T68 ai ag).f0) : Int) < ((aD.length : Int) : Int) := dq
  obtain ⟨dl, d7, cD, cE, dk, d6, ci⟩ := Kd.R_form af.1 (by omega)
  (first | cases cD | (injection cD with ea_ en_ ec_; (first | subst ea_ | (injection ea_ with ea_; subst ea_)); subst ec_; clear en_))
  have d4 := am cE
  have da := am ci
  clear cE dk ci
  (first | simp only [add_plain] at av | skip)
  (first | simp only [add_plain] at aN | skip)
  obtain ⟨bD, b8⟩ := Kd.R_celln 0 af.1 (((rd_T68 ai ag).f0) : Int) cW cX
  replace cW := eq_true cW
  replace cX := eq_true cX
  have b0 := Kd.R_putn af.1 (((rd_T68 ai ag).f0) : Int) (wrap64 ((rd aD ((rd_T68 ai ag).f0)) - ((rd_T68 ai ag).f1)))
  rw [← cn.1] at b0
  have cj := am b0
  clear b0
  refine start_ (n := 10) (S := fun w' => w'.cell? ⟨ap, 0, none⟩ = some (.int .i64 ((rd_T68 ai ag).f0)) ∧ w'.cell? ⟨ap, 1, none⟩ = some (.int .i64 ((rd_T68 ai ag).f1)) ∧ w'.cell? ⟨dl, (((rd_T68 ai ag).f0)).toNat, none⟩ = some (.int .i64 (rd aD ((rd_T68 ai ag).f0)))) (ds := [9]) #[false, false, false, false, false, false, false, false, false, false] (by kernel_rfl) rfl rfl ⟨(qBI ax.1 0).trans rfl, (qBI ax.1 1).trans rfl, aN⟩ (fun hHeld => ?_); refine qCL qAD.tab7 qAD.bits7 (fun HT_ HW_ => ?_)
  generalize ef.drew = ep at af ac ax HB da cj b8 av aN bD hHeld ⊢
  refine pu HT_.1 0 30 ?_
  refine pu HT_.1 1 31 ?_
  refine pu HT_.1 5 35 ?_
  refine tk HT_.1 HW_.1 hHeld 2 32 ?_
  refine pu HT_.1 3 33 ?_
  refine tk HT_.1 HW_.1 hHeld 4 34 ?_
  refine tk HT_.1 HW_.1 hHeld 6 36 ?_
  refine pu HT_.1 7 37 ?_
  refine pu HT_.1 8 38 ?_
  refine la HT_.1 9 none rfl fun K hK => ?_
  refine skip_ (w1 := ?_) (by rfl) rfl ?_ ?_
  rotate_left
  ·go_simp
   rfl
  refine hK.out _ _ ?_
  clear hK K
  refine done_ (done_of HT_.1 (by kernel_rfl)) ?_
  try go_wp2
  (try simp only [← ar])
  go_roundg k1
  case measure => have := bL.1; omega
  case rel => exact ⟨(cO), (wrap64 (ag + 1)), prs, H', ⟨by have := bL.1; omega⟩, ⟨by (try simp only [ar]); exact pkr cj.1⟩, ⟨by (try simp only [ar]); (with_reducible repeat (first | refine qBK ?_ _ | refine qBM ?_ | refine qBL ?_ _)); refine blk_far ?_ (by have h_ := Kd.R_ne af.1 ac.1 (by decide); intro e_; exact h_ (by rw [e_]; rfl)) _; exact pbk ac.1⟩, ⟨pbg⟩⟩
 (try have c11b9_0 : decide (ag < (aD.length : Int)) = false := (by rw [← ar]; exact bi))
 skip
 have H' := am H
 clear H
 have dz := cf5 ac.1
 go_wp2
 go_loopg [43] k1 (fun kq ee w' => ∃ (aq : List Int) (aa : Int), ee = .int .i64 aa ∧ Aside0 (qAD.l1 kq aq ab (ab.length : Int) aa = some (r1, r2)) ∧ Aside0 (kq ≤ k1) ∧ Aside0 (Kd.R (Kd.int .i64) 3 w' w.heap.size (fun _ => True) (.slice cY aD.length cf) aq) ∧ Aside0 (w'.heap[aX]? = some (.cells #[.string aL, (.slice bq ai.length a7), (.slice bs ab.length a8), (.slice a6 aH.length a9), .int .i64 aM] 38 (0, 0))) ∧ Aside0 (Below w.heap.size w w'))
 case atStart => exact ⟨(aD), (0), prs, H', ⟨Nat.le_refl _⟩, ⟨by (try simp only [ar]); exact pkr af.1⟩, ⟨by (try simp only [ar]); exact pbk ac.1⟩, ⟨pbg⟩⟩
 clear H'
 try clear c1 c3 cy cz c4 cB cC bi dc cp de bQ df cq dg cr en bR bS cW cX cU dx dy dz bj bk av aN bD cG aY dp cI aZ dt
 obtain ⟨aq, aa, rfl, HA, cV, af, ac, HB⟩ := hrel
 have aG := (Kd.qBR af.1).1
 rw [aG] at af
 (try simp only [aG])
 (try simp only [aG] at ac)
 obtain _ | k2 := gk
 ·exact absurd HA.1 (by simp [qAD.l1])
 have H := HA.1
 clear HA
 simp only [qAD.l1] at H
 replace H := ifl H
 rcases H with ⟨aW, H⟩ | ⟨aW, H⟩
 rotate_left
 ·(try have c28b9_0 : decide (aa < (aD.length : Int)) = false := (by rw [← ar]; exact aW))
  (try have c28b9_1 : decide (aa < (aq.length : Int)) = false := (by rw [← aG]; exact aW))
  skip
  simp only [Option.some.injEq, Prod.mk.injEq] at H
  obtain ⟨rfl, rfl⟩ := H
  go_wp2
  go_ret2
  exact ⟨_, per, pkr af.1, pbg⟩
 (try have c28b9_0 : decide (aa < (aD.length : Int)) = true := (by rw [← ar]; exact aW))
 (try have c28b9_1 : decide (aa < (aq.length : Int)) = true := (by rw [← aG]; exact aW))
 skip
 replace H := ifd H
 obtain ⟨dH, H⟩ := H
 replace H := ifp H
 obtain ⟨dI, H⟩ := H
 have bT := decide_eq_true dI
 (try have c30b9_0 : decide (aa < (aD.length : Int)) = true := (by rw [← ar]; exact bT))
 (try have c30b9_1 : decide (aa < (aq.length : Int)) = true := (by rw [← aG]; exact bT))
 clear dI
 replace H := ifd H
 obtain ⟨dK, H⟩ := H
 replace H := ifp H
 obtain ⟨dL, H⟩ := H
 have cu := decide_eq_true dL
 (try have c32b9_0 : decide (((rd_T68 ab aa).f0) < (aD.length : Int)) = true := (by rw [← ar]; exact cu))
 clear dL
 replace H := ife H
 rcases H with ⟨cv, cw, H⟩ | ⟨cv, cw, H⟩
 ·replace H := ifg H
  rcases H with ⟨cx, H⟩ | ⟨cx, H⟩
  ·simp only [Option.some.injEq, Prod.mk.injEq] at H
   obtain ⟨rfl, rfl⟩ := H
   obtain ⟨ca, cd, aV, ba, aS, aT⟩ := bT68 bh.1 HB.1 aa
   cases ba
   go_wp2_with (first | ((with_reducible refine qBN (N := 10) rfl ?_); refine box_ev ?_; intro ae hg eq hbox hb; have ah := am hbox; have aP := gwb hg; have bu := aP; have ao := nlt hg ac; have aw := ngt hg ac; replace af := rbw af hb; replace ac := bbh ac hb; replace HB := bst hb; clear hb hbox hg; have dP := aw.1; have dW := ao.1; have ei := cf2 ah.1; have aI : 0 ≤ (((rd_T68 ab aa).f0) : Int) := dq; have aJ : ((rd_T68 ab aa).f0) < (aq.length : Int) := dq; obtain ⟨au, bb, aj⟩ := Kd.at_int (Kd.qBR af.1).2.2 ((rd_T68 ab aa).f0) aI aJ; cases bb; have ak : au.block ≠ ae := Kd.own_blk (Kd.R_ne af.1 ah.1 (by decide)); have al : au.block ≠ ae := Kd.own_blk (Kd.R_ne af.1 ah.1 (by decide)); replace aj := (qCK (p := ⟨ae, 0, none⟩) (by first | (rw [qBU]; exact ak) | (show (Addr.add _ _).block ≠ _; rw [qBU]; exact ak) | exact ak) (.int .i64 ((rd_T68 ab aa).f0))).trans aj; replace aj := (qCK (p := ⟨ae, 1, none⟩) (by first | (rw [qBU]; exact al) | (show (Addr.add _ _).block ≠ _; rw [qBU]; exact al) | exact al) (.int .i64 ((rd_T68 ab aa).f1))).trans aj; clear ak; clear al; replace aI := eq_true aI; replace aJ := eq_true aJ; have bf : 0 ≤ (((rd_T68 ab aa).f0) : Int) := dq; have bg : ((rd_T68 ab aa).f0) < (aq.length : Int) := dq; obtain ⟨bz, b5, aC⟩ := Kd.at_int (Kd.qBR af.1).2.2 ((rd_T68 ab aa).f0) bf bg; obtain rfl : au = bz := (by injection b5); have aA : au.block ≠ ae := Kd.own_blk (Kd.R_ne af.1 ah.1 (by decide)); have aB : au.block ≠ ae := Kd.own_blk (Kd.R_ne af.1 ah.1 (by decide)); replace aC := (qCK (p := ⟨ae, 0, none⟩) (by first | (rw [qBU]; exact aA) | (show (Addr.add _ _).block ≠ _; rw [qBU]; exact aA) | exact aA) (.int .i64 ((rd_T68 ab aa).f0))).trans aC; replace aC := (qCK (p := ⟨ae, 1, none⟩) (by first | (rw [qBU]; exact aB) | (show (Addr.add _ _).block ≠ _; rw [qBU]; exact aB) | exact aB) (.int .i64 ((rd_T68 ab aa).f1))).trans aC; clear aA; clear aB; replace bf := eq_true bf; replace bg := eq_true bg))
   go_ret2
   exact ⟨_, per, knl, pbg⟩
  have H' := am H
  clear H
  obtain ⟨ca, cd, aV, ba, aS, aT⟩ := bT68 bh.1 HB.1 aa
  cases ba
  go_wp2_with (first | ((with_reducible refine qBN (N := 10) rfl ?_); refine box_ev ?_; intro ae hg er hbox hb; have ah := am hbox; have aP := gwb hg; have bu := aP; have ao := nlt hg ac; have aw := ngt hg ac; replace af := rbw af hb; replace ac := bbh ac hb; replace HB := bst hb; clear hb hbox hg; have dQ := aw.1; have dX := ao.1; have ej := cf2 ah.1; have aI : 0 ≤ (((rd_T68 ab aa).f0) : Int) := dq; have aJ : ((rd_T68 ab aa).f0) < (aq.length : Int) := dq; obtain ⟨au, bb, aj⟩ := Kd.at_int (Kd.qBR af.1).2.2 ((rd_T68 ab aa).f0) aI aJ; cases bb; have ak : au.block ≠ ae := Kd.own_blk (Kd.R_ne af.1 ah.1 (by decide)); have al : au.block ≠ ae := Kd.own_blk (Kd.R_ne af.1 ah.1 (by decide)); replace aj := (qCK (p := ⟨ae, 0, none⟩) (by first | (rw [qBU]; exact ak) | (show (Addr.add _ _).block ≠ _; rw [qBU]; exact ak) | exact ak) (.int .i64 ((rd_T68 ab aa).f0))).trans aj; replace aj := (qCK (p := ⟨ae, 1, none⟩) (by first | (rw [qBU]; exact al) | (show (Addr.add _ _).block ≠ _; rw [qBU]; exact al) | exact al) (.int .i64 ((rd_T68 ab aa).f1))).trans aj; clear ak; clear al; replace aI := eq_true aI; replace aJ := eq_true aJ; have bf : 0 ≤ (((rd_T68 ab aa).f0) : Int) := dq; have bg : ((rd_T68 ab aa).f0) < (aq.length : Int) := dq; obtain ⟨bz, b5, aC⟩ := Kd.at_int (Kd.qBR af.1).2.2 ((rd_T68 ab aa).f0) bf bg; obtain rfl : au = bz := (by injection b5); have aA : au.block ≠ ae := Kd.own_blk (Kd.R_ne af.1 ah.1 (by decide)); have aB : au.block ≠ ae := Kd.own_blk (Kd.R_ne af.1 ah.1 (by decide)); replace aC := (qCK (p := ⟨ae, 0, none⟩) (by first | (rw [qBU]; exact aA) | (show (Addr.add _ _).block ≠ _; rw [qBU]; exact aA) | exact aA) (.int .i64 ((rd_T68 ab aa).f0))).trans aC; replace aC := (qCK (p := ⟨ae, 1, none⟩) (by first | (rw [qBU]; exact aB) | (show (Addr.add _ _).block ≠ _; rw [qBU]; exact aB) | exact aB) (.int .i64 ((rd_T68 ab aa).f1))).trans aC; clear aA; clear aB; replace bf := eq_true bf; replace bg := eq_true bg))
  (try simp only [← aG])
  go_roundg k2
  case measure => have := bL.1; have := cV.1; omega
  case rel => exact ⟨(aq), (wrap64 (aa + 1)), prs, H', ⟨by have := bL.1; have := cV.1; omega⟩, ⟨by (try simp only [ar]); (try simp only [aG]); (with_reducible repeat (first | apply Kd.R_alloc | apply Kd.R_drewN | apply Kd.R_drew)); exact Kd.R_mono (fR2 ae (Kd.qCI af.1 ah.1 (by decide)) (fun _ hk => hk.2)) (fun _ hk => trivial)⟩, ⟨by (try simp only [ar]); (try simp only [aG]); (with_reducible repeat (first | refine qBK ?_ _ | refine qBM ?_ | refine qBL ?_ _)); refine bf2 ?_ ao.1; exact pbk ac.1⟩, ⟨pbg⟩⟩
 obtain ⟨cP, bH⟩ : ∃ y_ : List Int, y_ = (aq.set (((rd_T68 ab aa).f0) : Int).toNat (wrap64 ((rd aq ((rd_T68 ab aa).f0)) + ((rd_T68 ab aa).f1)))) := ⟨_, rfl⟩
 replace H : (if (wrap64 ((rd aq ((rd_T68 ab aa).f0)) + ((rd_T68 ab aa).f1))) > 1048576 then (some (([] : List Int), false)) else (qAD.l1 k2 cP ab (ab.length : Int) (wrap64 (aa + 1)))) = some (r1, r2) := hrp bH H
 have bO := am bH
 clear bH
 replace H := ifg H
 rcases H with ⟨cA, H⟩ | ⟨cA, H⟩
 ·simp only [Option.some.injEq, Prod.mk.injEq] at H
  obtain ⟨rfl, rfl⟩ := H
  obtain ⟨ca, cd, aV, ba, aS, aT⟩ := bT68 bh.1 HB.1 aa
  cases ba
  try go_wp2_with (first | ((with_reducible refine qBN (N := 10) rfl ?_); refine box_ev ?_; intro ae hg cL hbox hb; have ah := am hbox; have aP := gwb hg; have bu := aP; have ao := nlt hg ac; have aw := ngt hg ac; replace af := rbw af hb; replace ac := bbh ac hb; replace HB := bst hb; clear hb hbox hg; have dR := aw.1; have dY := ao.1; have ek := cf2 ah.1; have aI : 0 ≤ (((rd_T68 ab aa).f0) : Int) := dq; have aJ : ((rd_T68 ab aa).f0) < (aq.length : Int) := dq; obtain ⟨au, bb, aj⟩ := Kd.at_int (Kd.qBR af.1).2.2 ((rd_T68 ab aa).f0) aI aJ; cases bb; have ak : au.block ≠ ae := Kd.own_blk (Kd.R_ne af.1 ah.1 (by decide)); have al : au.block ≠ ae := Kd.own_blk (Kd.R_ne af.1 ah.1 (by decide)); replace aj := (qCK (p := ⟨ae, 0, none⟩) (by first | (rw [qBU]; exact ak) | (show (Addr.add _ _).block ≠ _; rw [qBU]; exact ak) | exact ak) (.int .i64 ((rd_T68 ab aa).f0))).trans aj; replace aj := (qCK (p := ⟨ae, 1, none⟩) (by first | (rw [qBU]; exact al) | (show (Addr.add _ _).block ≠ _; rw [qBU]; exact al) | exact al) (.int .i64 ((rd_T68 ab aa).f1))).trans aj; clear ak; clear al; replace aI := eq_true aI; replace aJ := eq_true aJ))
  have n0_ : Aside0 (Kd.R (Kd.int .i64) 3 ((cL.setCell ⟨ae, 0, none⟩ (.int .i64 ((rd_T68 ab aa).f0))).setCell ⟨ae, 1, none⟩ (.int .i64 ((rd_T68 ab aa).f1))) w.heap.size (fun _ => True) (.slice (some au) aq.length cf) aq) := ⟨by (with_reducible repeat (first | apply Kd.R_alloc | apply Kd.R_drewN | apply Kd.R_drew)); exact Kd.R_mono (fR2 ae (Kd.qCI af.1 ah.1 (by decide)) (fun _ hk => hk.2)) (fun _ hk => trivial)⟩
  have n1_ : Aside0 (((cL.setCell ⟨ae, 0, none⟩ (.int .i64 ((rd_T68 ab aa).f0))).setCell ⟨ae, 1, none⟩ (.int .i64 ((rd_T68 ab aa).f1))).heap[aX]? = some (.cells #[.string aL, .slice bq ai.length a7, .slice (some aV) ab.length a8, .slice a6 aH.length a9, .int .i64 aM] 38 (0, 0))) := ⟨by (with_reducible repeat (first | refine qBK ?_ _ | refine qBM ?_ | refine qBL ?_ _)); refine bf2 ?_ ao.1; exact pbk ac.1⟩
  have n2_ : Aside0 (((cL.setCell ⟨ae, 0, none⟩ (.int .i64 ((rd_T68 ab aa).f0))).setCell ⟨ae, 1, none⟩ (.int .i64 ((rd_T68 ab aa).f1))).heap[ae]? = some (.cells #[.int .i64 ((rd_T68 ab aa).f0), .int .i64 ((rd_T68 ab aa).f1)] 68 (0, 0))) := ⟨by (with_reducible repeat (first | refine qBK ?_ _ | refine qBM ?_ | refine qBL ?_ _)); exact bp2 (pbk ah.1)⟩
  have n3_ : Aside0 (Below w.heap.size w ((cL.setCell ⟨ae, 0, none⟩ (.int .i64 ((rd_T68 ab aa).f0))).setCell ⟨ae, 1, none⟩ (.int .i64 ((rd_T68 ab aa).f1)))) := ⟨pbg⟩
  (try clear af)
  (try clear ac)
  (try clear ah)
  (try clear HB)
  generalize ((cL.setCell ⟨ae, 0, none⟩ (.int .i64 ((rd_T68 ab aa).f0))).setCell ⟨ae, 1, none⟩ (.int .i64 ((rd_T68 ab aa).f1))) = eg at n0_ n1_ n2_ n3_ ⊢
  have af := n0_
  have ac := n1_
  have ah := n2_
  have HB := n3_
  clear n0_ n1_ n2_ n3_
  replace af := am (Kd.R_drew af.1)
  replace ac := am (qBM ac.1)
  replace ah := am (qBM ah.1)
  replace HB := am (qCB HB.1)
  obtain ⟨dr, du, bA, b6, aF⟩ := dint (Kd.qBR af.1).2.2 ((rd_T68 ab aa).f0)
  obtain rfl : au = bA := (by injection b6)
  have cb : 0 ≤ (((rd_T68 ab aa).f0) : Int) := dq
  have ce : (((rd_T68 ab aa).f0) : Int) < ((aq.length : Int) : Int) := dq
  obtain ⟨bc, di, bB, bC, b7, dh, bx⟩ := Kd.R_form af.1 (by omega)
  (first | cases bB | (injection bB with ea_ en_ ec_; (first | subst ea_ | (injection ea_ with ea_; subst ea_)); subst ec_; clear en_))
  have cZ := am bC
  have bv := am bx
  clear bC b7 bx
  (first | simp only [add_plain] at aj | skip)
  (first | simp only [add_plain] at aF | skip)
  obtain ⟨aR, bd⟩ := Kd.R_celln 0 af.1 (((rd_T68 ab aa).f0) : Int) cb ce
  replace cb := eq_true cb
  replace ce := eq_true ce
  have b1 := Kd.R_putn af.1 (((rd_T68 ab aa).f0) : Int) (wrap64 ((rd aq ((rd_T68 ab aa).f0)) + ((rd_T68 ab aa).f1)))
  rw [← bO.1] at b1
  have db := am b1
  clear b1
  refine start_ (n := 10) (S := fun w' => w'.cell? ⟨ae, 0, none⟩ = some (.int .i64 ((rd_T68 ab aa).f0)) ∧ w'.cell? ⟨ae, 1, none⟩ = some (.int .i64 ((rd_T68 ab aa).f1)) ∧ w'.cell? ⟨bc, (((rd_T68 ab aa).f0)).toNat, none⟩ = some (.int .i64 (rd aq ((rd_T68 ab aa).f0)))) (ds := [9]) #[false, false, false, false, false, false, false, false, false, false] (by kernel_rfl) rfl rfl ⟨(qBI ah.1 0).trans rfl, (qBI ah.1 1).trans rfl, aF⟩ (fun hHeld => ?_); refine qCL qAD.tab13 qAD.bits13 (fun HT_ HW_ => ?_)
  generalize eg.drew = es at af ac ah HB bv db bd aj aF aR hHeld ⊢
  refine pu HT_.1 0 53 ?_
  refine pu HT_.1 1 54 ?_
  refine pu HT_.1 5 58 ?_
  refine tk HT_.1 HW_.1 hHeld 2 55 ?_
  refine pu HT_.1 3 56 ?_
  refine tk HT_.1 HW_.1 hHeld 4 57 ?_
  refine tk HT_.1 HW_.1 hHeld 6 59 ?_
  refine pu HT_.1 7 60 ?_
  refine pu HT_.1 8 61 ?_
  refine la HT_.1 9 none rfl fun K hK => ?_
  refine skip_ (w1 := ?_) (by rfl) rfl ?_ ?_
  rotate_left
  ·go_simp
   rfl
  refine hK.out _ _ ?_
  clear hK K
  refine done_ (done_of HT_.1 (by kernel_rfl)) ?_
  obtain ⟨cQ, cR, d0, d1⟩ := cf2 ah.1
  have cH : 0 ≤ (((rd_T68 ab aa).f0) : Int) := dq
  have cJ : (((rd_T68 ab aa).f0) : Int) < ((aq.length : Int) : Int) := dq
  have b9 := World.cell?_setCell_same _ _ (.int .i64 (wrap64 ((rd aq ((rd_T68 ab aa).f0)) + ((rd_T68 ab aa).f1)))) aR
  have hnez_ := blk_apart ah.1 bv.1 (by decide)
  have hney_ := Ne.symm hnez_
  have hcy0_ := (qCK (p := ⟨bc, (((rd_T68 ab aa).f0) : Int).toNat, none⟩) hnez_ (.int .i64 (wrap64 ((rd aq ((rd_T68 ab aa).f0)) + ((rd_T68 ab aa).f1))))).trans cQ
  have hcy1_ := (qCK (p := ⟨bc, (((rd_T68 ab aa).f0) : Int).toNat, none⟩) hnez_ (.int .i64 (wrap64 ((rd aq ((rd_T68 ab aa).f0)) + ((rd_T68 ab aa).f1))))).trans cR
  replace cH := eq_true cH
  replace cJ := eq_true cJ
  try go_wp2
  go_ret2
  exact ⟨_, per, knl, pbg⟩
 have H' := am H
 clear H
 obtain ⟨ca, cd, aV, ba, aS, aT⟩ := bT68 bh.1 HB.1 aa
 cases ba
 try go_wp2_with (first | ((with_reducible refine qBN (N := 10) rfl ?_); refine box_ev ?_; intro ae hg cM hbox hb; have ah := am hbox; have aP := gwb hg; have bu := aP; have ao := nlt hg ac; have aw := ngt hg ac; replace af := rbw af hb; replace ac := bbh ac hb; replace HB := bst hb; clear hb hbox hg; have dS := aw.1; have dZ := ao.1; have el := cf2 ah.1; have aI : 0 ≤ (((rd_T68 ab aa).f0) : Int) := dq; have aJ : ((rd_T68 ab aa).f0) < (aq.length : Int) := dq; obtain ⟨au, bb, aj⟩ := Kd.at_int (Kd.qBR af.1).2.2 ((rd_T68 ab aa).f0) aI aJ; cases bb; have ak : au.block ≠ ae := Kd.own_blk (Kd.R_ne af.1 ah.1 (by decide)); have al : au.block ≠ ae := Kd.own_blk (Kd.R_ne af.1 ah.1 (by decide)); replace aj := (qCK (p := ⟨ae, 0, none⟩) (by first | (rw [qBU]; exact ak) | (show (Addr.add _ _).block ≠ _; rw [qBU]; exact ak) | exact ak) (.int .i64 ((rd_T68 ab aa).f0))).trans aj; replace aj := (qCK (p := ⟨ae, 1, none⟩) (by first | (rw [qBU]; exact al) | (show (Addr.add _ _).block ≠ _; rw [qBU]; exact al) | exact al) (.int .i64 ((rd_T68 ab aa).f1))).trans aj; clear ak; clear al; replace aI := eq_true aI; replace aJ := eq_true aJ))
 have n0_ : Aside0 (Kd.R (Kd.int .i64) 3 ((cM.setCell ⟨ae, 0, none⟩ (.int .i64 ((rd_T68 ab aa).f0))).setCell ⟨ae, 1, none⟩ (.int .i64 ((rd_T68 ab aa).f1))) w.heap.size (fun _ => True) (.slice (some au) aq.length cf) aq) := ⟨by (with_reducible repeat (first | apply Kd.R_alloc | apply Kd.R_drewN | apply Kd.R_drew)); exact Kd.R_mono (fR2 ae (Kd.qCI af.1 ah.1 (by decide)) (fun _ hk => hk.2)) (fun _ hk => trivial)⟩
 have n1_ : Aside0 (((cM.setCell ⟨ae, 0, none⟩ (.int .i64 ((rd_T68 ab aa).f0))).setCell ⟨ae, 1, none⟩ (.int .i64 ((rd_T68 ab aa).f1))).heap[aX]? = some (.cells #[.string aL, .slice bq ai.length a7, .slice (some aV) ab.length a8, .slice a6 aH.length a9, .int .i64 aM] 38 (0, 0))) := ⟨by (with_reducible repeat (first | refine qBK ?_ _ | refine qBM ?_ | refine qBL ?_ _)); refine bf2 ?_ ao.1; exact pbk ac.1⟩
 have n2_ : Aside0 (((cM.setCell ⟨ae, 0, none⟩ (.int .i64 ((rd_T68 ab aa).f0))).setCell ⟨ae, 1, none⟩ (.int .i64 ((rd_T68 ab aa).f1))).heap[ae]? = some (.cells #[.int .i64 ((rd_T68 ab aa).f0), .int .i64 ((rd_T68 ab aa).f1)] 68 (0, 0))) := ⟨by (with_reducible repeat (first | refine qBK ?_ _ | refine qBM ?_ | refine qBL ?_ _)); exact bp2 (pbk ah.1)⟩
 have n3_ : Aside0 (Below w.heap.size w ((cM.setCell ⟨ae, 0, none⟩ (.int .i64 ((rd_T68 ab aa).f0))).setCell ⟨ae, 1, none⟩ (.int .i64 ((rd_T68 ab aa).f1)))) := ⟨pbg⟩
 (try clear af)
 (try clear ac)
 (try clear ah)
 (try clear HB)
 generalize ((cM.setCell ⟨ae, 0, none⟩ (.int .i64 ((rd_T68 ab aa).f0))).setCell ⟨ae, 1, none⟩ (.int .i64 ((rd_T68 ab aa).f1))) = eh at n0_ n1_ n2_ n3_ ⊢
 have af := n0_
 have ac := n1_
 have ah := n2_
 have HB := n3_
 clear n0_ n1_ n2_ n3_
 replace af := am (Kd.R_drew af.1)
 replace ac := am (qBM ac.1)
 replace ah := am (qBM ah.1)
 replace HB := am (qCB HB.1)
 obtain ⟨dr, du, bA, b6, aF⟩ := dint (Kd.qBR af.1).2.2 ((rd_T68 ab aa).f0)
 obtain rfl : au = bA := (by injection b6)
 have cb : 0 ≤ (((rd_T68 ab aa).f0) : Int) := dq
 have ce : (((rd_T68 ab aa).f0) : Int) < ((aq.length : Int) : Int) := dq
 obtain ⟨bc, di, bB, bC, b7, dh, bx⟩ := Kd.R_form af.1 (by omega)
 (first | cases bB | (injection bB with ea_ en_ ec_; (first | subst ea_ | (injection ea_ with ea_; subst ea_)); subst ec_; clear en_))
 have cZ := am bC
 have bv := am bx
 clear bC b7 bx
 (first | simp only [add_plain] at aj | skip)
 (first | simp only [add_plain] at aF | skip)
 obtain ⟨aR, bd⟩ := Kd.R_celln 0 af.1 (((rd_T68 ab aa).f0) : Int) cb ce
 replace cb := eq_true cb
 replace ce := eq_true ce
 have b2 := Kd.R_putn af.1 (((rd_T68 ab aa).f0) : Int) (wrap64 ((rd aq ((rd_T68 ab aa).f0)) + ((rd_T68 ab aa).f1)))
 rw [← bO.1] at b2
 have ck := am b2
 clear b2
 refine start_ (n := 10) (S := fun w' => w'.cell? ⟨ae, 0, none⟩ = some (.int .i64 ((rd_T68 ab aa).f0)) ∧ w'.cell? ⟨ae, 1, none⟩ = some (.int .i64 ((rd_T68 ab aa).f1)) ∧ w'.cell? ⟨bc, (((rd_T68 ab aa).f0)).toNat, none⟩ = some (.int .i64 (rd aq ((rd_T68 ab aa).f0)))) (ds := [9]) #[false, false, false, false, false, false, false, false, false, false] (by kernel_rfl) rfl rfl ⟨(qBI ah.1 0).trans rfl, (qBI ah.1 1).trans rfl, aF⟩ (fun hHeld => ?_); refine qCL qAD.tab13 qAD.bits13 (fun HT_ HW_ => ?_)
 generalize eh.drew = et at af ac ah HB bv ck bd aj aF aR hHeld ⊢
 refine pu HT_.1 0 53 ?_
 refine pu HT_.1 1 54 ?_
 refine pu HT_.1 5 58 ?_
 refine tk HT_.1 HW_.1 hHeld 2 55 ?_
 refine pu HT_.1 3 56 ?_
 refine tk HT_.1 HW_.1 hHeld 4 57 ?_
 refine tk HT_.1 HW_.1 hHeld 6 59 ?_
 refine pu HT_.1 7 60 ?_
 refine pu HT_.1 8 61 ?_
 refine la HT_.1 9 none rfl fun K hK => ?_
 refine skip_ (w1 := ?_) (by rfl) rfl ?_ ?_
 rotate_left
 ·go_simp
  rfl
 refine hK.out _ _ ?_
 clear hK K
 refine done_ (done_of HT_.1 (by kernel_rfl)) ?_
 obtain ⟨cS, cT, d2, d3⟩ := cf2 ah.1
 have cH : 0 ≤ (((rd_T68 ab aa).f0) : Int) := dq
 have cJ : (((rd_T68 ab aa).f0) : Int) < ((aq.length : Int) : Int) := dq
 have b9 := World.cell?_setCell_same _ _ (.int .i64 (wrap64 ((rd aq ((rd_T68 ab aa).f0)) + ((rd_T68 ab aa).f1)))) aR
 have hnez_ := blk_apart ah.1 bv.1 (by decide)
 have hney_ := Ne.symm hnez_
 have hcy0_ := (qCK (p := ⟨bc, (((rd_T68 ab aa).f0) : Int).toNat, none⟩) hnez_ (.int .i64 (wrap64 ((rd aq ((rd_T68 ab aa).f0)) + ((rd_T68 ab aa).f1))))).trans cS
 have hcy1_ := (qCK (p := ⟨bc, (((rd_T68 ab aa).f0) : Int).toNat, none⟩) hnez_ (.int .i64 (wrap64 ((rd aq ((rd_T68 ab aa).f0)) + ((rd_T68 ab aa).f1))))).trans cT
 replace cH := eq_true cH
 replace cJ := eq_true cJ
 try go_wp2
 (try simp only [← aG])
 go_roundg k2
 case measure => have := bL.1; have := cV.1; omega
 case rel => exact ⟨(cP), (wrap64 (aa + 1)), prs, H', ⟨by have := bL.1; have := cV.1; omega⟩, ⟨by (try simp only [ar]); (try simp only [aG]); exact pkr ck.1⟩, ⟨by (try simp only [ar]); (try simp only [aG]); (with_reducible repeat (first | refine qBK ?_ _ | refine qBM ?_ | refine qBL ?_ _)); refine blk_far ?_ (by have h_ := Kd.R_ne af.1 ac.1 (by decide); intro e_; exact h_ (by rw [e_]; rfl)) _; exact pbk ac.1⟩, ⟨pbg⟩⟩

/-! ### qAK: function 65 -/
def qAK.f (k : Nat) (aB : ByteArray) (au : List (S64)) (ab : List (S38)) (l1 : List Int) (a2 : Int) : Option (List Int × Bool) := (qAJ.f k aB au ab l1).bind fun bn => (if bn = true then (if a2 < 0 then (some (([] : List Int), false)) else (if a2 ≥ (ab.length : Int) then (some (([] : List Int), false)) else (if 0 ≤ a2 then (if a2 < (ab.length : Int) then ((qAF.f k ((rd_T38 ab a2).f0) ((rd_T38 ab a2).f1) ((rd_T38 ab a2).f2) ((rd_T38 ab a2).f3) ((rd_T38 ab a2).f4) l1).bind fun bo => (if bo = true then ((qAD.f k ((rd_T38 ab a2).f0) ((rd_T38 ab a2).f1) ((rd_T38 ab a2).f2) ((rd_T38 ab a2).f3) ((rd_T38 ab a2).f4) l1).bind fun a8 => (some (a8.1, a8.2))) else (some (([] : List Int), false)))) else (none)) else (none)))) else (some (([] : List Int), false)))
theorem qAK.mono : ∀ a0 a1 a2 a3 a4 k, LeO (qAK.f k a0 a1 a2 a3 a4) (qAK.f (k + 1) a0 a1 a2 a3 a4) := by
 intro a0 a1 a2 a3 a4 k
 unfold qAK.f
 repeat' first | (with_reducible first | apply qAF.mono | apply qAJ.mono | apply qAD.mono | apply lr | apply ln | apply li | refine lb ?_ fun _ => ?_)
theorem qAK.calls (k : Nat) (aB : ByteArray) (bp : Option Addr) (bu : Nat) (au : List (S64)) (bq : Option Addr) (bv : Nat) (ab : List (S38)) (A1 : Option Addr) (c1 : Nat) (l1 : List Int) (a2 : Int) (r1 : List Int) (r2 : Bool) (w : World) (bb : Kd.C k64 w bp au.length au) (a9 : au.length ≤ bu) (bc : Kd.C k38 w bq ab.length ab) (ba : ab.length ≤ bv) (hr1 : Kd.C (Kd.int .i64) w A1 l1.length l1) (bN : l1.length ≤ c1) (h : qAK.f k aB au ab l1 a2 = some (r1, r2)) :
  Calls Try.prog 65 #[.agg #[.string aB, .slice bp au.length bu, .slice bq ab.length bv], .slice A1 l1.length c1, .int .i64 a2] w fun e w' => ∃ v0_ : Value, e = .returned (.tuple #[v0_, .bool r2]) ∧ Kd.R (Kd.int .i64) 3 w' w.heap.size (fun _ => True) v0_ r1 ∧ Below w.heap.size w w' := by
 have bQ := Try.underlying25
 have bR := Try.underlying38
 have aE := am bb
 have aC := am a9
 clear bb a9
 have ar := am bc
 have aD := am ba
 clear bc ba
 have a6 := am hr1
 have a5 := am bN
 clear hr1 bN
 have HB := am (Below.refl w.heap.size w)
 have H := h
 unfold qAK.f at H
 clear h
 replace H := bnd H
 obtain ⟨bn, A4, H⟩ := H
 (try dsimp only at H)
 cases bn
 ·rw [if_neg Bool.false_ne_true] at H
  simp only [Option.some.injEq, Prod.mk.injEq] at H
  obtain ⟨rfl, rfl⟩ := H
  go_enter Try.func65, Try.ntmps65
  go_wp2_with (first | ((with_reducible refine qBN (N := 3) rfl ?_); (try (refine qBP (by rfl) ?_; dsimp only)); refine box_ev ?_; intro aI hg ca hbox hb; have aa := am hbox; have ac := gwl hg; have aH := ac; replace HB := bsl hb; clear hb hbox hg; have b0 := cf3 aa.1) | ((with_reducible refine qBO (f := 82) rfl ?_); refine gC 10 Try.func82 _ (qAJ.calls k aB _ _ au _ _ ab _ _ l1 false _ (csb aE HB) aC.1 (csb ar HB) aD.1 (csb a6 HB) a5.1 A4.1) ?_; rintro e cb ⟨rfl, hb⟩; refine ⟨_, rfl, ?_⟩; replace aa := bbh aa hb; replace HB := bst hb; (try clear hb)))
  go_ret2
  exact ⟨_, per, knl, pbg⟩
 rw [if_pos rfl] at H
 replace H := ifl H
 rcases H with ⟨bE, H⟩ | ⟨bE, H⟩
 ·simp only [Option.some.injEq, Prod.mk.injEq] at H
  obtain ⟨rfl, rfl⟩ := H
  go_enter Try.func65, Try.ntmps65
  go_wp2_with (first | ((with_reducible refine qBN (N := 3) rfl ?_); (try (refine qBP (by rfl) ?_; dsimp only)); refine box_ev ?_; intro aI hg w7 hbox hb; have aa := am hbox; have ac := gwl hg; have aH := ac; replace HB := bsl hb; clear hb hbox hg; have cd := cf3 aa.1) | ((with_reducible refine qBO (f := 82) rfl ?_); refine gC 10 Try.func82 _ (qAJ.calls k aB _ _ au _ _ ab _ _ l1 true _ (csb aE HB) aC.1 (csb ar HB) aD.1 (csb a6 HB) a5.1 A4.1) ?_; rintro e w9 ⟨rfl, hb⟩; refine ⟨_, rfl, ?_⟩; replace aa := bbh aa hb; replace HB := bst hb; (try clear hb)))
  go_ret2
  exact ⟨_, per, knl, pbg⟩
 replace H := ifh H
 rcases H with ⟨bw, H⟩ | ⟨bw, H⟩
 ·simp only [Option.some.injEq, Prod.mk.injEq] at H
  obtain ⟨rfl, rfl⟩ := H
  go_enter Try.func65, Try.ntmps65
  go_wp2_with (first | ((with_reducible refine qBN (N := 3) rfl ?_); (try (refine qBP (by rfl) ?_; dsimp only)); refine box_ev ?_; intro aI hg b1 hbox hb; have aa := am hbox; have ac := gwl hg; have aH := ac; replace HB := bsl hb; clear hb hbox hg; have bT := cf3 aa.1) | ((with_reducible refine qBO (f := 82) rfl ?_); refine gC 10 Try.func82 _ (qAJ.calls k aB _ _ au _ _ ab _ _ l1 true _ (csb aE HB) aC.1 (csb ar HB) aD.1 (csb a6 HB) a5.1 A4.1) ?_; rintro e b2 ⟨rfl, hb⟩; refine ⟨_, rfl, ?_⟩; replace aa := bbh aa hb; replace HB := bst hb; (try clear hb); have bU := cf3 aa.1))
  go_ret2
  exact ⟨_, per, knl, pbg⟩
 replace H := ifd H
 obtain ⟨bK, H⟩ := H
 replace H := ifd H
 obtain ⟨bM, H⟩ := H
 replace H := bnd H
 obtain ⟨bo, bI, H⟩ := H
 (try dsimp only at H)
 cases bo
 ·rw [if_neg Bool.false_ne_true] at H
  simp only [Option.some.injEq, Prod.mk.injEq] at H
  obtain ⟨rfl, rfl⟩ := H
  go_enter Try.func65, Try.ntmps65
  go_wp2_with (first | ((with_reducible refine qBN (N := 3) rfl ?_); (try (refine qBP (by rfl) ?_; dsimp only)); refine box_ev ?_; intro aI hg b7 hbox hb; have aa := am hbox; have ac := gwl hg; have aH := ac; replace HB := bsl hb; clear hb hbox hg; have bY := cf3 aa.1) | ((with_reducible refine qBO (f := 82) rfl ?_); refine gC 10 Try.func82 _ (qAJ.calls k aB _ _ au _ _ ab _ _ l1 true _ (csb aE HB) aC.1 (csb ar HB) aD.1 (csb a6 HB) a5.1 A4.1) ?_; rintro e b8 ⟨rfl, hb⟩; refine ⟨_, rfl, ?_⟩; replace aa := bbh aa hb; replace HB := bst hb; (try clear hb); have bZ := cf3 aa.1; have aF : 0 ≤ (a2 : Int) := dq; have aG : a2 < (ab.length : Int) := dq; obtain ⟨a7, bd, bh, bf, bi, bg, bj, bk, ak, al, ao, ap, aq, ah, ae, ai, af, aj, ag⟩ := at_T38 ar.1 a2 aF aG; cases bk; replace ak := cbl HB.1 ak; replace al := cbl HB.1 al; replace ao := cbl HB.1 ao; replace ap := cbl HB.1 ap; replace aq := cbl HB.1 aq; have ay := am ae; have av := am ah; clear ae ah; have az := am af; have aw := am ai; clear af ai; have aA := am ag; have ax := am aj; clear ag aj; replace aF := eq_true aF; replace aG := eq_true aG) | (go_at_call 83; (with_reducible refine (qAF.calls k ((rd_T38 ab a2).f0) _ _ ((rd_T38 ab a2).f1) _ _ ((rd_T38 ab a2).f2) _ _ ((rd_T38 ab a2).f3) ((rd_T38 ab a2).f4) _ _ l1 false _ ?side1 ?side2 ?side3 ?side4 ?side5 ?side6 ?side7 ?side8 bI.1).mono ?_); (case side1 => exact csb ay HB); (case side2 => exact av.1); (case side3 => exact csb az HB); (case side4 => exact aw.1); (case side5 => exact csb aA HB); (case side6 => exact ax.1); (case side7 => exact csb a6 HB); (case side8 => exact a5.1); rintro e b9 ⟨rfl, hb⟩; replace aa := bbh aa hb; replace HB := bst hb; (try clear hb)))
  go_ret2
  exact ⟨_, per, knl, pbg⟩
 rw [if_pos rfl] at H
 replace H := bnd H
 obtain ⟨⟨bG, bH⟩, bP, H⟩ := H
 (try dsimp only at H)
 simp only [Option.some.injEq, Prod.mk.injEq] at H
 obtain ⟨rfl, rfl⟩ := H
 go_enter Try.func65, Try.ntmps65
 go_wp2_with (first | ((with_reducible refine qBN (N := 3) rfl ?_); (try (refine qBP (by rfl) ?_; dsimp only)); refine box_ev ?_; intro aI hg b3 hbox hb; have aa := am hbox; have ac := gwl hg; have aH := ac; replace HB := bsl hb; clear hb hbox hg; have bV := cf3 aa.1) | ((with_reducible refine qBO (f := 82) rfl ?_); refine gC 10 Try.func82 _ (qAJ.calls k aB _ _ au _ _ ab _ _ l1 true _ (csb aE HB) aC.1 (csb ar HB) aD.1 (csb a6 HB) a5.1 A4.1) ?_; rintro e b4 ⟨rfl, hb⟩; refine ⟨_, rfl, ?_⟩; replace aa := bbh aa hb; replace HB := bst hb; (try clear hb); have bW := cf3 aa.1; have aF : 0 ≤ (a2 : Int) := dq; have aG : a2 < (ab.length : Int) := dq; obtain ⟨a7, bd, bh, bf, bi, bg, bj, bk, ak, al, ao, ap, aq, ah, ae, ai, af, aj, ag⟩ := at_T38 ar.1 a2 aF aG; cases bk; replace ak := cbl HB.1 ak; replace al := cbl HB.1 al; replace ao := cbl HB.1 ao; replace ap := cbl HB.1 ap; replace aq := cbl HB.1 aq; have ay := am ae; have av := am ah; clear ae ah; have az := am af; have aw := am ai; clear af ai; have aA := am ag; have ax := am aj; clear ag aj; replace aF := eq_true aF; replace aG := eq_true aG) | (go_at_call 83; (with_reducible refine (qAF.calls k ((rd_T38 ab a2).f0) _ _ ((rd_T38 ab a2).f1) _ _ ((rd_T38 ab a2).f2) _ _ ((rd_T38 ab a2).f3) ((rd_T38 ab a2).f4) _ _ l1 true _ ?side1 ?side2 ?side3 ?side4 ?side5 ?side6 ?side7 ?side8 bI.1).mono ?_); (case side1 => exact csb ay HB); (case side2 => exact av.1); (case side3 => exact csb az HB); (case side4 => exact aw.1); (case side5 => exact csb aA HB); (case side6 => exact ax.1); (case side7 => exact csb a6 HB); (case side8 => exact a5.1); rintro e b5 ⟨rfl, hb⟩; replace aa := bbh aa hb; replace HB := bst hb; (try clear hb); have bX := cf3 aa.1; have bl : 0 ≤ (a2 : Int) := dq; have bm : a2 < (ab.length : Int) := dq; obtain ⟨bs, bx, bB, bz, bC, bA, bD, bF, aP, aQ, aR, aS, aT, aM, aJ, aN, aK, aO, aL⟩ := at_T38 ar.1 a2 bl bm; obtain rfl : a7 = bs := (by injection bF); replace aP := cbl HB.1 aP; replace aQ := cbl HB.1 aQ; replace aR := cbl HB.1 aR; replace aS := cbl HB.1 aS; replace aT := cbl HB.1 aT; have aX := am aJ; have aU := am aM; clear aJ aM; have aY := am aK; have aV := am aN; clear aK aN; have aZ := am aL; have aW := am aO; clear aL aO; replace bl := eq_true bl; replace bm := eq_true bm) | ((with_reducible refine qBO (f := 97) rfl ?_); refine gC 39 Try.func97 _ (qAD.calls k ((rd_T38 ab a2).f0) _ _ ((rd_T38 ab a2).f1) _ _ ((rd_T38 ab a2).f2) _ _ ((rd_T38 ab a2).f3) ((rd_T38 ab a2).f4) _ _ l1 bG bH _ (csb aX HB) aU.1 (csb aY HB) aV.1 (csb aZ HB) aW.1 (csb a6 HB) a5.1 bP.1) ?_; rintro e b6 ⟨bS, rfl, bO, hb⟩; refine ⟨_, rfl, ?_⟩; have br := am (Kd.qCH bO (qBJ pbg)); replace aa := bbh aa hb; replace HB := bst hb; (try clear hb); (try clear bO)))
 go_ret2
 exact ⟨_, per, pkr br.1, pbg⟩

/-! ### qAM: function 67 -/
-- IMPORTS Derived.Test.YtaoogghpadifiaaCopy
def qAM.l0 : Nat → List Int → List Int → List Int → Int → Int → Option (List Int)
 | 0, _, _, _, _, _ => none
 | k + 1, x0, x5, a6, bo, aE => if aE < bo then (if 0 ≤ aE then (if aE < (a6.length : Int) then ((omega_rank.f (rd a6 aE)).bind fun aq => (if aE < (x0.length : Int) then ((omega_rank.f (rd x0 aE)).bind fun ar => (if aq > ar then (if aE < (x5.length : Int) then (qAM.l0 k x0 (x5.set (aE : Int).toNat (-1)) a6 bo (wrap64 (aE + 1))) else (none)) else (qAM.l0 k x0 x5 a6 bo (wrap64 (aE + 1))))) else (none))) else (none)) else (none)) else (some x5)
def qAM.f (k : Nat) (l0 : List Int) (l1 : List Int) : Option (List Int) := if 0 ≤ (l1.length : Int) then (if ((l1.length : Int) : Int).toNat ≤ 35184372088832 then ((some (cpy (List.replicate ((l1.length : Int) : Int).toNat 0) l1 : List Int)).bind fun aj => ((omega_Leq.f k l0 l1).bind fun al => (if al = true then (qAM.l0 k l0 aj l1 (l1.length : Int) 0) else (some aj)))) else (none)) else (none)
theorem qAM.mono_l : ∀ k, M5 qAM.l0 k
 | 0 => fun _ _ _ _ _ r h => by simp [qAM.l0] at h
 | k + 1 => by
  have bj := qAM.mono_l k
  ·intro y0 y1 y2 y3 y4
   unfold qAM.l0
   repeat' first | (with_reducible first | apply bj | apply omega_Leq.mono | apply lr | apply ln | apply li | refine lb ?_ fun _ => ?_)
theorem qAM.mono : ∀ a0 a1 k, LeO (qAM.f k a0 a1) (qAM.f (k + 1) a0 a1) := by
 intro a0 a1 k
 have bj := qAM.mono_l k
 unfold qAM.f
 repeat' first | (with_reducible first | apply bj | apply omega_Leq.mono | apply lr | apply ln | apply li | refine lb ?_ fun _ => ?_)
theorem qAM.calls (k : Nat) (A0 : Option Addr) (c0 : Nat) (l0 : List Int) (A1 : Option Addr) (c1 : Nat) (l1 : List Int) (r : List Int) (w : World) (bx : Kd.C (Kd.int .i64) w A0 l0.length l0) (hc0 : l0.length ≤ c0) (hr1 : Kd.C (Kd.int .i64) w A1 l1.length l1) (bw : l1.length ≤ c1) (h : qAM.f k l0 l1 = some r) :
  Calls Try.prog 67 #[.slice A0 l0.length c0, .slice A1 l1.length c1] w fun e w' => ∃ v0_ : Value, e = .returned (v0_) ∧ Kd.R (Kd.int .i64) 3 w' w.heap.size (fun _ => True) v0_ r ∧ Below w.heap.size w w' := by
 have aH := am bx
 have a3 := am hc0
 clear bx hc0
 have aI := am hr1
 have a4 := am bw
 clear hr1 bw
 have HB := am (Below.refl w.heap.size w)
 have H := h
 unfold qAM.f at H
 clear h
 replace H := ifp H
 obtain ⟨c3, H⟩ := H
 have a9 := eq_true c3
 have ba : decide (0 ≤ (l1.length : Int)) = true := decide_eq_true c3
 clear c3
 replace H := ifp H
 obtain ⟨c4, H⟩ := H
 have bb := eq_true c4
 have bc : decide (((l1.length : Int) : Int).toNat ≤ 35184372088832) = true := decide_eq_true c4
 clear c4
 obtain ⟨ao, aB⟩ : ∃ y_ : List Int, y_ = (List.replicate ((l1.length : Int) : Int).toNat 0) := ⟨_, rfl⟩
 replace H : ((some (cpy ao l1 : List Int)).bind fun aj => ((omega_Leq.f k l0 l1).bind fun al => (if al = true then (qAM.l0 k l0 aj l1 (l1.length : Int) 0) else (some aj)))) = some r := hrp aB H
 have ap := am aB
 clear aB
 obtain ⟨aj, aC⟩ : ∃ y_ : List Int, y_ = (cpy ao l1) := ⟨_, rfl⟩
 replace H : ((omega_Leq.f k l0 l1).bind fun al => (if al = true then (qAM.l0 k l0 aj l1 (l1.length : Int) 0) else (some aj))) = some r := hrp aC H
 have aJ := am aC
 clear aC
 replace H := bnd H
 obtain ⟨al, A5, H⟩ := H
 (try dsimp only at H)
 cases al
 ·rw [if_neg Bool.false_ne_true] at H
  obtain rfl := Option.some.inj H
  go_enter Try.func67, Try.ntmps67
  iterate 4 (try go_wp2_with (first | ((with_reducible refine qBN (N := 10) rfl ?_); refine Kd.R_make (Kd.int .i64) _ 3 rfl (N := 10) rfl 39 _ _ rfl (l1.length : Int) rfl rfl Try.underlying39 (.int .i64 0) 8 info3 rfl (by decide) (by omega) 0 (ok := fun _ => True) (okp := fun _ => True) rfl (fun _ hk => hk) trivial (dq) (Nat.le_trans (Nat.mul_le_mul_right _ (dq : (l1.length : Int).toNat ≤ 35184372088832)) (by omega)) (Below.refl _ _) (Nat.le_refl _) ?_; intro bm bC aA hb hg_ hnew_; clear hg_ hnew_; (first | rw [← ap.1] at aA | (simp only [Int.reduceToNat] at aA; rw [← ap.1] at aA)); have ac := am (Kd.qCH aA (qBJ pbl)); replace HB := bsl hb; clear hb aA; obtain ⟨a7, bg, bi⟩ := Kd.R_slice ac.1; subst bi) | ((with_reducible refine qBQ (b := .copy) (xs := #[.tmp 11, .tmp 12]) rfl ?_); refine R_copy (enc := Value.int .i64) (h1 := fun _ => rfl) (w0 := w) w.heap.size rfl (.tmp 11) (.tmp 12) 39 39 3 rfl Try.underlying39 (by kernel_rfl) (.slice a7 ao.length bg) ao l1 (fun _ => True) A1 c1 rfl rfl (pkr ac.1) ?hC pbl (qBJ pbl) ?_; (case hC => exact csb aI HB); intro bD nw25_ ho hb hg; rw [← aJ.1] at ho; replace ac := am ho; replace HB := am hb; clear ho hb hg) | (go_at_call 80; (with_reducible refine (omega_Leq.calls k _ _ l0 _ _ l1 false _ ?side1 ?side2 ?side3 ?side4 A5.1).mono ?_); (case side1 => exact csb aH HB); (case side2 => exact a3.1); (case side3 => exact csb aI HB); (case side4 => exact a4.1); rintro e bB ⟨rfl, hb⟩; replace ac := rbw ac hb; replace HB := bsl hb; (try clear hb))); try go_quiet (first | (go_at_call 80; (with_reducible refine (omega_Leq.calls k _ _ l0 _ _ l1 false _ ?side1 ?side2 ?side3 ?side4 A5.1).mono ?_); (case side1 => exact csb aH HB); (case side2 => exact a3.1); (case side3 => exact csb aI HB); (case side4 => exact a4.1); rintro e bB ⟨rfl, hb⟩; replace ac := rbw ac hb; replace HB := bsl hb; (try clear hb))))
  go_ret
  exact ⟨_, per, pkr ac.1, pbg⟩
 rw [if_pos rfl] at H
 have H' := am H
 clear H
 go_enter Try.func67, Try.ntmps67
 iterate 4 (try go_wp2_with (first | ((with_reducible refine qBN (N := 10) rfl ?_); refine Kd.R_make (Kd.int .i64) _ 3 rfl (N := 10) rfl 39 _ _ rfl (l1.length : Int) rfl rfl Try.underlying39 (.int .i64 0) 8 info3 rfl (by decide) (by omega) 0 (ok := fun _ => True) (okp := fun _ => True) rfl (fun _ hk => hk) trivial (dq) (Nat.le_trans (Nat.mul_le_mul_right _ (dq : (l1.length : Int).toNat ≤ 35184372088832)) (by omega)) (Below.refl _ _) (Nat.le_refl _) ?_; intro bm w7 aZ hb hg_ hnew_; clear hg_ hnew_; (first | rw [← ap.1] at aZ | (simp only [Int.reduceToNat] at aZ; rw [← ap.1] at aZ)); have ac := am (Kd.qCH aZ (qBJ pbl)); replace HB := bsl hb; clear hb aZ; obtain ⟨aS, aK, bh⟩ := Kd.R_slice ac.1; subst bh) | ((with_reducible refine qBQ (b := .copy) (xs := #[.tmp 11, .tmp 12]) rfl ?_); refine R_copy (enc := Value.int .i64) (h1 := fun _ => rfl) (w0 := w) w.heap.size rfl (.tmp 11) (.tmp 12) 39 39 3 rfl Try.underlying39 (by kernel_rfl) (.slice aS ao.length aK) ao l1 (fun _ => True) A1 c1 rfl rfl (pkr ac.1) ?hC pbl (qBJ pbl) ?_; (case hC => exact csb aI HB); intro w9 nw9_ ho hb hg; rw [← aJ.1] at ho; replace ac := am ho; replace HB := am hb; clear ho hb hg) | (go_at_call 80; (with_reducible refine (omega_Leq.calls k _ _ l0 _ _ l1 true _ ?side1 ?side2 ?side3 ?side4 A5.1).mono ?_); (case side1 => exact csb aH HB); (case side2 => exact a3.1); (case side3 => exact csb aI HB); (case side4 => exact a4.1); rintro e bA ⟨rfl, hb⟩; replace ac := rbw ac hb; replace HB := bsl hb; (try clear hb))); try go_quiet (first | (go_at_call 80; (with_reducible refine (omega_Leq.calls k _ _ l0 _ _ l1 true _ ?side1 ?side2 ?side3 ?side4 A5.1).mono ?_); (case side1 => exact csb aH HB); (case side2 => exact a3.1); (case side3 => exact csb aI HB); (case side4 => exact a4.1); rintro e bA ⟨rfl, hb⟩; replace ac := rbw ac hb; replace HB := bsl hb; (try clear hb))))
 go_loopg [21] k (fun kq bz w' => ∃ (ai : List Int) (aa : Int), bz = .int .i64 aa ∧ Aside0 (qAM.l0 kq l0 ai l1 (l1.length : Int) aa = some r) ∧ Aside0 (kq ≤ k) ∧ Aside0 (Kd.R (Kd.int .i64) 3 w' w.heap.size (fun _ => True) (.slice aS ao.length aK) ai) ∧ Aside0 (Below w.heap.size w w'))
 case atStart => exact ⟨(aj), (0), prs, H', ⟨Nat.le_refl _⟩, ⟨pkr ac.1⟩, ⟨pbg⟩⟩
 clear H'
 try clear c1 c3 a9 ba c4 bb bc
 obtain ⟨ai, aa, rfl, HA, a5, ae, HB⟩ := hrel
 have af := (Kd.qBR ae.1).1
 rw [af] at ae
 (try simp only [af])
 obtain _ | k1 := gk
 ·exact absurd HA.1 (by simp [qAM.l0])
 have H := HA.1
 clear HA
 simp only [qAM.l0] at H
 replace H := ifl H
 rcases H with ⟨ax, H⟩ | ⟨ax, H⟩
 rotate_left
 ·(try have c12b9_0 : decide (aa < (ai.length : Int)) = false := (by rw [← af]; exact ax))
  skip
  obtain rfl := Option.some.inj H
  go_wp2
  repeat (go_quiet (fail); try go_wp2)
  go_ret
  exact ⟨_, per, pkr ae.1, pbg⟩
 (try have c12b9_0 : decide (aa < (ai.length : Int)) = true := (by rw [← af]; exact ax))
 skip
 replace H := ifd H
 obtain ⟨bq, H⟩ := H
 replace H := ifp H
 obtain ⟨br, H⟩ := H
 have aW := decide_eq_true br
 (try have c14b9_0 : decide (aa < (ai.length : Int)) = true := (by rw [← af]; exact aW))
 clear br
 replace H := bnd H
 obtain ⟨aq, A15, H⟩ := H
 (try dsimp only at H)
 replace H := ifp H
 obtain ⟨bs, H⟩ := H
 have aX := decide_eq_true bs
 (try have c16b9_0 : decide (aa < (ai.length : Int)) = true := (by rw [← af]; exact aX))
 clear bs
 replace H := bnd H
 obtain ⟨ar, a2, H⟩ := H
 (try dsimp only at H)
 replace H := ifg H
 rcases H with ⟨aY, H⟩ | ⟨aY, H⟩
 rotate_left
 ·have H' := am H
  clear H
  obtain ⟨bk, bl, aV, aL, aG⟩ := bint aI.1 HB.1 aa
  cases aL
  iterate 4 (try go_wp2_with (first | (go_at_call 99; (with_reducible refine (omega_rank.calls (rd l1 aa) aq _ A15.1).mono ?_); rintro e w' ⟨rfl, ⟨nd, rfl⟩⟩; (try first | exact dw1 | exact dw2); have ag : 0 ≤ (aa : Int) := dq; have ah : aa < (l0.length : Int) := dq; obtain ⟨aw, ak, ab⟩ := Kd.at_int aH.1 aa ag ah; cases ak; replace ab := cbl HB.1 ab; replace ag := eq_true ag; replace ah := eq_true ah) | (go_at_call 99; (with_reducible refine (omega_rank.calls (rd l0 aa) ar _ a2.1).mono ?_); rintro e w' ⟨rfl, ⟨nd, rfl⟩⟩; (try first | exact dw1 | exact dw2))); try go_quiet (first | (go_at_call 99; (with_reducible refine (omega_rank.calls (rd l1 aa) aq _ A15.1).mono ?_); rintro e w' ⟨rfl, ⟨nd, rfl⟩⟩; (try first | exact dw1 | exact dw2); have ag : 0 ≤ (aa : Int) := dq; have ah : aa < (l0.length : Int) := dq; obtain ⟨aw, ak, ab⟩ := Kd.at_int aH.1 aa ag ah; cases ak; replace ab := cbl HB.1 ab; replace ag := eq_true ag; replace ah := eq_true ah) | (go_at_call 99; (with_reducible refine (omega_rank.calls (rd l0 aa) ar _ a2.1).mono ?_); rintro e w' ⟨rfl, ⟨nd, rfl⟩⟩; (try first | exact dw1 | exact dw2))))
  (try simp only [← af])
  go_roundg k1
  case measure => have := a5.1; omega
  case rel => exact ⟨(ai), (wrap64 (aa + 1)), prs, H', ⟨by have := a5.1; omega⟩, ⟨by (try simp only [af]); exact pkr ae.1⟩, ⟨pbg⟩⟩
 replace H := ifd H
 obtain ⟨bv, H⟩ := H
 obtain ⟨aR, aD⟩ : ∃ y_ : List Int, y_ = (ai.set (aa : Int).toNat (-1)) := ⟨_, rfl⟩
 replace H : (qAM.l0 k1 l0 aR l1 (l1.length : Int) (wrap64 (aa + 1))) = some r := hrp aD H
 have aU := am aD
 clear aD
 have H' := am H
 clear H
 obtain ⟨bk, bl, aV, aL, aG⟩ := bint aI.1 HB.1 aa
 cases aL
 iterate 4 (try go_wp2_with (first | (go_at_call 99; (with_reducible refine (omega_rank.calls (rd l1 aa) aq _ A15.1).mono ?_); rintro e w' ⟨rfl, ⟨nd, rfl⟩⟩; (try first | exact dw1 | exact dw2); have ag : 0 ≤ (aa : Int) := dq; have ah : aa < (l0.length : Int) := dq; obtain ⟨aw, ak, ab⟩ := Kd.at_int aH.1 aa ag ah; cases ak; replace ab := cbl HB.1 ab; replace ag := eq_true ag; replace ah := eq_true ah) | (go_at_call 99; (with_reducible refine (omega_rank.calls (rd l0 aa) ar _ a2.1).mono ?_); rintro e w' ⟨rfl, ⟨nd, rfl⟩⟩; (try first | exact dw1 | exact dw2); have aP : 0 ≤ (aa : Int) := dq; have aQ : (aa : Int) < ((ai.length : Int) : Int) := dq; obtain ⟨aF, bf, ay, az, aM, bd, au⟩ := Kd.R_form ae.1 (by omega); (first | cases ay | (injection ay with ea_ en_ ec_; (first | subst ea_ | (injection ea_ with ea_; subst ea_)); subst ec_; clear en_)); have aT := am az; have a8 := am au; clear az aM au; obtain ⟨aO, aN⟩ := Kd.R_celln 0 ae.1 (aa : Int) aP aQ; replace aP := eq_true aP; replace aQ := eq_true aQ; obtain ⟨hy21_, hz21_⟩ := Kd.R_celln 0 ae.1 (aa : Int) (dq) (dq); have av := Kd.R_putg ae.1 (aa : Int) (-1)) | ((with_reducible refine gate_store (t := 3) (p := 36) rfl ?_); (try (rw [drewN_self wr]; generalize hq_ : World.drewN wr _ = wr; replace ae := am (Kd.R_at hq_ ae.1); replace HB := am (below_at hq_ HB.1); clear hq_; (try (obtain ⟨hy21_, hz21_⟩ := Kd.R_celln 0 ae.1 (aa : Int) (dq) (dq))); (try (have av := Kd.R_putg ae.1 (aa : Int) (-1))))); refine store_event (t := 3) (p := 36) (v := ?vo_w22) (w1 := (wr.setCell ⟨aF, (aa : Int).toNat, none⟩ (.int .i64 (-1)))) ?hg ?ho ?hn ?hr ?_; (case ho => rfl); (case hg => rfl); (case hn => rfl); (case hr => first | (go_simp; done) | (go_simp; rfl)); intro bn hw; have hg : wr.grownBy bn (some aF) := (by rw [hw]; exact av.2); have hp_ : Kd.R (Kd.int .i64) 3 bn w.heap.size (fun _ => True) (.slice (some ⟨aF, 0, none⟩) ai.length aK) aR := (by rw [hw, aU.1]; exact av.1); clear av; replace ae := am hp_; replace HB := am ((by rw [hw]; exact qCN (HB.1) aT.1 : Below w.heap.size w bn)); clear hg hw hp_)); try go_quiet (first | (go_at_call 99; (with_reducible refine (omega_rank.calls (rd l1 aa) aq _ A15.1).mono ?_); rintro e w' ⟨rfl, ⟨nd, rfl⟩⟩; (try first | exact dw1 | exact dw2); have ag : 0 ≤ (aa : Int) := dq; have ah : aa < (l0.length : Int) := dq; obtain ⟨aw, ak, ab⟩ := Kd.at_int aH.1 aa ag ah; cases ak; replace ab := cbl HB.1 ab; replace ag := eq_true ag; replace ah := eq_true ah) | (go_at_call 99; (with_reducible refine (omega_rank.calls (rd l0 aa) ar _ a2.1).mono ?_); rintro e w' ⟨rfl, ⟨nd, rfl⟩⟩; (try first | exact dw1 | exact dw2); have aP : 0 ≤ (aa : Int) := dq; have aQ : (aa : Int) < ((ai.length : Int) : Int) := dq; obtain ⟨aF, bf, ay, az, aM, bd, au⟩ := Kd.R_form ae.1 (by omega); (first | cases ay | (injection ay with ea_ en_ ec_; (first | subst ea_ | (injection ea_ with ea_; subst ea_)); subst ec_; clear en_)); have aT := am az; have a8 := am au; clear az aM au; obtain ⟨aO, aN⟩ := Kd.R_celln 0 ae.1 (aa : Int) aP aQ; replace aP := eq_true aP; replace aQ := eq_true aQ; obtain ⟨hy21_, hz21_⟩ := Kd.R_celln 0 ae.1 (aa : Int) (dq) (dq); have av := Kd.R_putg ae.1 (aa : Int) (-1))))
 (try simp only [← af])
 go_roundg k1
 case measure => have := a5.1; omega
 case rel => exact ⟨(aR), (wrap64 (aa + 1)), prs, H', ⟨by have := a5.1; omega⟩, ⟨by (try simp only [af]); exact pkr ae.1⟩, ⟨pbg⟩⟩

/-! ### qAC: function 35 -/
-- IMPORTS Derived.WalkMore,Derived.RangeFuncLeaves,Derived.RangeFuncRecord,Derived.RangeFuncIn,Derived.RangeFuncKeeps,Derived.Shelf.Abstract,Derived.RangeFuncNested,Derived.RangeFuncBound,Derived.RangeFuncCalls,Derived.OwnWalkIn,Derived.TacticsInMore,Derived.LoopNIn,Derived.LoopIn,Derived.Sort.LoopGhostIn
attribute [local go_sem] Oper.semAt_some
/-- A function's contract from its body, where the body holds a range over a function. -/
theorem calls_of_marks {P : Program} {f : FuncId} {fn : Func} {c : Code} {args : Array Value} {w : World} {R : Ending → World → Prop} (hf : P.funcs[f]? = some fn) (hb : fn.body = some c)
  (h : c.wp P (bodyPostM Fence.wide 9 P fn R) { tmps := args ++ Array.replicate (fn.ntmps - args.size) undef, defers := [] } w) : Calls P f args w R :=
 callsIn_wide.1 (callsIn_of_wp_marks hf hb trivial (wpIn_wide.2 h) rfl)
/-- The marks that ranges have left: each block of deferred calls is empty, no block twice. -/
def Marks (W : World) (base : Nat) (ds : List Deferred) : Prop := ∃ bs : List Nat, ds = bs.map (fun D => { target := .collected D, args := #[] }) ∧ bs.Nodup ∧ ∀ D ∈ bs, base ≤ D ∧ W.heap[D]? = some (.deferred (some []))
theorem Marks.nil (W : World) (base : Nat) : Marks W base [] := ⟨[], rfl, List.nodup_nil, fun D h => by cases h⟩
/-- What may turn while the marks stand. -/
theorem Marks.keep {W W' : World} {base : Nat} {ds : List Deferred} (h : Marks W base ds) (hk : ∀ D : Nat, base ≤ D → W.heap[D]? = some (.deferred (some [])) → W'.heap[D]? = some (.deferred (some []))) : Marks W' base ds := by
 obtain ⟨bs, e, n, hb⟩ := h
 exact ⟨bs, e, n, fun D hD => ⟨(hb D hD).1, hk D (hb D hD).1 (hb D hD).2⟩⟩
theorem Marks.cons {W0 W : World} {base D : Nat} {ds : List Deferred} (h : Marks W0 base ds) (hk : ∀ D' : Nat, D' < W0.heap.size → base ≤ D' → W0.heap[D']? = some (.deferred (some [])) → W.heap[D']? = some (.deferred (some []))) (hD : W.heap[D]? = some (.deferred (some []))) (hge : W0.heap.size ≤ D) (hb : base ≤ D) : Marks W base ({ target := .collected D, args := #[] } :: ds) := by
 obtain ⟨bs, rfl, n, h2⟩ := h
 have lt : ∀ D' ∈ bs, D' < W0.heap.size := fun D' hD' => (Array.getElem?_eq_some_iff.1 (h2 D' hD').2).1
 refine ⟨D :: bs, rfl, List.nodup_cons.2 ⟨fun hm => ?_, n⟩, fun D' hD' => ?_⟩
 ·have := lt D hm; omega
 ·rcases List.mem_cons.1 hD' with rfl | h3
  ·exact ⟨hb, hD⟩
  ·exact ⟨(h2 D' h3).1, hk D' (lt D' h3) (h2 D' h3).1 (h2 D' h3).2⟩
/-- The marks are passed at the return: blocks of deferred calls are shut, nothing else turns. -/
theorem leaves_marks {P : Program} {fn : Func} {tmps : Array Value} {R : Ending → World → Prop} {base : Nat} {v : Value} : ∀ (ds : List Deferred) (W : World), Marks W base ds →
  (∀ W' : World, (∃ _ : True, W'.heap.size = W.heap.size ∧ W'.os = W.os ∧ W'.tape = W.tape ∧ W'.output = W.output ∧ ∀ k, (k < base ∨ ∃ cs t z, W.heap[k]? = some (.cells cs t z)) → W'.heap[k]? = W.heap[k]?) → (results fn tmps).run P W' = .ok v W' ∧ R (.returned v) W') →
  LeavesInM Fence.wide 9 P fn tmps R ds .returning W
 | [], W, _, h => by
  obtain ⟨h1, h2⟩ := h W ⟨trivial, rfl, rfl, rfl, rfl, fun _ _ => rfl⟩
  exact ⟨v, h1, h2⟩
 | d :: ds, W, ⟨bs, e, n, hb⟩, h => by
  match bs, e, n, hb with
  | D :: bs, e, n, hb =>
   obtain ⟨rfl, rfl⟩ := List.cons.inj e
   have hD := hb D (by simp)
   refine ⟨by simp, .inl ⟨D, _, rfl, run_takeDeferred hD.2, ?_⟩⟩
   refine leaves_marks (v := v) _ _ ⟨bs, rfl, (List.nodup_cons.1 n).2, fun D' hD' => ⟨(hb D' (by simp [hD'])).1, ?_⟩⟩ (fun W' ⟨_, s1, s2, s3, s4, s5⟩ => ?_)
   ·rw [World.putObj_heap_other (fun e => by subst e; exact (List.nodup_cons.1 n).1 hD')]
    exact (hb D' (by simp [hD'])).2
   ·have keep : ∀ k, (k < base ∨ ∃ cs t z, W.heap[k]? = some (.cells cs t z)) → k ≠ D := by
     rintro k (h1 | ⟨cs, t, z, h1⟩) rfl
     ·omega
     ·rw [hD.2] at h1; cases h1
    refine h W' ⟨trivial, by rw [s1]; exact World.putObj_size, s2, s3, s4, fun k hk => ?_⟩
    rw [s5 k (hk.imp id fun ⟨cs, t, z, h1⟩ => ⟨cs, t, z, by rw [World.putObj_heap_other (keep k hk)]; exact h1⟩), World.putObj_heap_other (keep k hk)]
theorem karpmiller_ancestors.calls (A : Option Addr) (n c : Nat) (i : Int) (w : World) : Calls Try.prog 66 #[.slice A n c, .int .i64 i] w fun e w' => ∃ Bt Bi, e = .returned (.func (.func 98) #[] #[.pointer (some ⟨Bi, 0, none⟩), .pointer (some ⟨Bt, 0, none⟩)]) ∧ w.heap.size ≤ Bt ∧ w.heap.size ≤ Bi ∧ Bt ≠ Bi ∧ w'.heap[Bt]? = some (.cells #[.slice A n c] 69 (0, 0)) ∧ w'.heap[Bi]? = some (.cells #[.int .i64 i] 3 (0, 0)) ∧ Below w.heap.size w w' := by
 have HB := am (Below.refl w.heap.size w)
 go_enter Try.func66, Try.ntmps66
 go_wp2_with (first
  | ((with_reducible refine qBN (N := 2) rfl ?_); refine box_ev (N := 2) (cs := #[.slice A n c]) (t := 69) ?_; intro gt hg w2 hbox hb; have BT := am hbox; have GT := gwl hg; replace HB := bsl hb; clear hb hbox hg)
  | ((with_reducible refine qBN (N := 3) rfl ?_); refine box_ev ?_; intro gi hg w3 hbox hb; have BI := am hbox; have GI := gwb hg; have NT := nlt hg BT; replace BT := bbh BT hb; replace HB := bst hb; clear hb hbox hg))
 go_ret
 exact ⟨gt, gi, rfl, GT.1, GI.1, NT.1, pbk BT.1, pbk BI.1, pbg⟩

/-! ### The range over the ancestors -/
def qAI : Nat → List S73 → Int → List Int → Option (List Int)
 | 0, _, _, _ => none
 | k + 1, xs, i, m => if 0 ≤ i then (if i < (xs.length : Int) then ((qAM.f k ((rd_T73 xs i).f2) m).bind fun m1 => qAI k xs ((rd_T73 xs i).f0) m1) else none) else some m
theorem qAI.mono : ∀ k, ∀ xs i m, LeO (qAI k xs i m) (qAI (k + 1) xs i m)
 | 0 => fun _ _ _ r h => by simp [qAI] at h
 | k + 1 => by
  have ih := qAI.mono k
  intro xs i m
  unfold qAI
  repeat' first | (with_reducible first | apply ih | apply qAM.mono | apply lr | apply ln | apply li | refine lb ?_ fun _ => ?_)
/-- Nothing has turned but two blocks. -/
structure Gk (w W : World) (gm gi : Nat) : Prop where
 size : w.heap.size ≤ W.heap.size
 os : W.os = w.os
 tape : W.tape = w.tape
 output : W.output = w.output
 block : ∀ k : Nat, k < w.heap.size → k ≠ gm → k ≠ gi → W.heap[k]? = w.heap[k]?
theorem Gk.refl (w : World) (gm gi : Nat) : Gk w w gm gi := ⟨Nat.le_refl _, rfl, rfl, rfl, fun _ _ _ _ => rfl⟩
theorem Gk.next {w W W' : World} {gm gi : Nat} (h : Gk w W gm gi) (hs : W.heap.size ≤ W'.heap.size) (ho : W'.os = W.os) (ht : W'.tape = W.tape) (hu : W'.output = W.output) (hb : ∀ k : Nat, k < W.heap.size → k < w.heap.size → k ≠ gm → k ≠ gi → W'.heap[k]? = W.heap[k]?) : Gk w W' gm gi :=
 ⟨Nat.le_trans h.size hs, ho.trans h.os, ht.trans h.tape, hu.trans h.output, fun k h1 h2 h3 => (hb k (Nat.lt_of_lt_of_le h1 h.size) h1 h2 h3).trans (h.block k h1 h2 h3)⟩
theorem Gk.below {w W W' : World} {gm gi : Nat} (h : Gk w W gm gi) (hb : Below W.heap.size W W') : Gk w W' gm gi := h.next hb.size hb.os hb.tape hb.output (fun k h1 _ _ _ => hb.block k h1)
theorem Gk.put {w W : World} {gm gi : Nat} (h : Gk w W gm gi) {l : Nat} (o : Obj) (hl : w.heap.size ≤ l) : Gk w (W.putObj l o) gm gi :=
 h.next (by simp) rfl rfl rfl (fun k _ h1 _ _ => World.putObj_heap_other (by omega))
theorem Gk.set {w W : World} {gm gi : Nat} (h : Gk w W gm gi) (p : Addr) (u : Value) (hp : p.block = gm ∨ p.block = gi) : Gk w (W.setCell p u) gm gi :=
 h.next (by simp [World.setCell]) rfl rfl rfl (fun k _ _ h2 h3 => Below.heap_setCell W p u k (by rcases hp with e | e <;> rw [e] <;> assumption))
def nodeCells (A2 : Option Addr) (c2 : Nat) (x : S73) : Array Value := #[.int .i64 x.f0, .int .i64 x.f1, .slice A2 x.f2.length c2, .bool x.f3]
theorem V_kp {α : Type} {d : Kd α} {e : Nat} {W W1 : World} {b b' : Nat} {ok : Nat → Prop} {v : Value} {xs : List α} (h : Kd.V d e W b ok v xs) (hm : ∀ k, ok k → k < W.heap.size → W1.heap[k]? = W.heap[k]?) : Kd.V d e W1 b' ok v xs :=
 Kd.V_map h (fun _ hf => Kd.F_step hf hm)

section
variable {w : World} {gm gi gt : Nat} {P2 : Nat → Prop} {A : Option Addr} {cap base : Nat} {okN : Nat → Prop} {nodes : List S73}
/-- Between two rounds: i is the node to come, ms what m holds. -/
structure AncS (w : World) (gm gi : Nat) (P2 : Nat → Prop) (i : Int) (ms : List Int) (W : World) : Prop where
 gk : Gk w W gm gi
 bi : W.heap[gi]? = some (.cells #[.int .i64 i] 3 (0, 0))
 m : ∃ mv, W.heap[gm]? = some (.cells #[mv] 39 (0, 0)) ∧ Kd.V (Kd.int .i64) 3 W w.heap.size (fun k => P2 k ∨ w.heap.size + 2 ≤ k) mv ms
/-- What is asked of the caller's world. -/
structure AncW (w : World) (gm gi gt : Nat) (P2 : Nat → Prop) (A : Option Addr) (cap base : Nat) (okN : Nat → Prop) (nodes : List S73) : Prop where
 hm : gm < w.heap.size
 hi : gi < w.heap.size
 mi : gm ≠ gi
 ti : gt ≠ gi
 tm : gt ≠ gm
 bt : w.heap[gt]? = some (.cells #[.slice A nodes.length cap] 69 (0, 0))
 p2 : ∀ k, P2 k → k ≠ gm ∧ k ≠ gi ∧ k < w.heap.size
 nd : Kd.N k73 73 w base okN (.slice A nodes.length cap) nodes
 okn : ∀ k, okN k → k ≠ gm ∧ k ≠ gi
theorem AncW.nodesAt (h : AncW w gm gi gt P2 A cap base okN nodes) {W : World} (g : Gk w W gm gi) : Kd.N k73 73 W base okN (.slice A nodes.length cap) nodes :=
 Kd.N_step h.nd (fun k hk hl => g.block k hl (h.okn k hk).1 (h.okn k hk).2)
theorem AncW.tree (h : AncW w gm gi gt P2 A cap base okN nodes) {W : World} (g : Gk w W gm gi) : W.heap[gt]? = some (.cells #[.slice A nodes.length cap] 69 (0, 0)) :=
 (g.block gt (Array.getElem?_eq_some_iff.1 h.bt).1 h.tm h.ti).trans h.bt
theorem AncS.put (h : AncW w gm gi gt P2 A cap base okN nodes) {i : Int} {ms : List Int} {W : World} (s : AncS w gm gi P2 i ms W) {l : Nat} (o : Obj) (h1 : w.heap.size ≤ l) (h2 : l < w.heap.size + 2) : AncS w gm gi P2 i ms (W.putObj l o) := by
 obtain ⟨mv, m1, m2⟩ := s.m
 have hm := h.hm
 have hi := h.hi
 refine ⟨s.gk.put o h1, (World.putObj_heap_other (by omega)).trans s.bi, mv, (World.putObj_heap_other (by omega)).trans m1, V_kp m2 (fun k hk _ => World.putObj_heap_other ?_)⟩
 rintro rfl
 rcases hk with hk | hk
 ·have := (h.p2 _ hk).2.2; omega
 ·omega
theorem AncS.step (h : AncW w gm gi gt P2 A cap base okN nodes) {i : Int} (i' : Int) {ms : List Int} {W : World} (s : AncS w gm gi P2 i ms W) : AncS w gm gi P2 i' ms (W.setCell ⟨gi, 0, none⟩ (.int .i64 i')) := by
 obtain ⟨mv, m1, m2⟩ := s.m
 have hi := h.hi
 refine ⟨s.gk.set _ _ (.inr rfl), blk_put s.bi 0 _ rfl, mv, blk_far m1 h.mi _, V_kp m2 (fun k hk _ => Below.heap_setCell W _ _ k (fun e => ?_))⟩
 have e2 : k = gi := e
 rcases hk with hk | hk
 ·exact (h.p2 _ hk).2.1 e2
 ·omega
end
/-- The iterator: each node from i on, up to the root. -/
theorem anc_iter {w : World} {gm gi gt : Nat} {P2 : Nat → Prop} {A : Option Addr} {cap base : Nat} {okN : Nat → Prop} {nodes : List S73} (h : AncW w gm gi gt P2 A cap base okN nodes) (l : Nat) (L : World → Prop) (hL : ∀ W v, L W → L (W.setCell ⟨gi, 0, none⟩ v))
  (hY : ∀ (k : Nat) (i : Int) (ms dK : List Int) (W : World) (A2 : Option Addr) (c2 : Nat), AncS w gm gi P2 i ms W → L W → qAM.f k ((rd_T73 nodes i).f2) ms = some dK → Kd.C (Kd.int .i64) W A2 (rd_T73 nodes i).f2.length (rd_T73 nodes i).f2 → (rd_T73 nodes i).f2.length ≤ c2 →
   YieldAt Fence.wide 7 Try.prog l #[.agg (nodeCells A2 c2 (rd_T73 nodes i))] W fun e W' => e = .returned (.bool true) ∧ AncS w gm gi P2 i dK W' ∧ L W')
  (k : Nat) (i : Int) (ms r : List Int) (W : World) (s : AncS w gm gi P2 i ms W) (hl : L W) (hr : qAI k nodes i ms = some r) :
  CallsIn Fence.wide 8 Try.prog 98 #[.func (.yield l) #[] #[], .pointer (some ⟨gi, 0, none⟩), .pointer (some ⟨gt, 0, none⟩)] W fun e W' => (∃ v, e = .returned v) ∧ ∃ i', AncS w gm gi P2 i' r W' ∧ L W' := by
 refine callsIn_of_wp Try.func98 rfl trivial ?_ rfl
 simp only [Try.ntmps98, List.size_toArray, List.length_cons, List.length_nil, Nat.reduceAdd, Nat.reduceSub, Array.replicate_succ, Array.replicate_zero, List.push_toArray, List.append_toArray, List.nil_append, List.cons_append]
 have H0 := am (And.intro s (And.intro hl hr))
 clear s hl hr
 gi_wp2
 gi_loopg [] k (fun kq wr => ∃ (i : Int) (ms : List Int), Aside0 (AncS w gm gi P2 i ms wr ∧ L wr ∧ qAI kq nodes i ms = some r))
 case atStart => exact ⟨i, ms, H0⟩
 case round =>
  obtain ⟨j, ns, HS⟩ := hrel
  obtain ⟨s, hl, hr⟩ := HS.out
  clear HS
  obtain _ | k1 := gk
  ·exact absurd hr (by simp [qAI])
  simp only [qAI] at hr
  have ci := (cf1 s.bi)
  have ct := (cf1 (h.tree s.gk))
  by_cases c : 0 ≤ j
  ·rw [if_pos c] at hr
   replace hr := ifp hr
   obtain ⟨c2, hr⟩ := hr
   replace hr := bnd hr
   obtain ⟨dK, a1, hr⟩ := hr
   have hn := h.nodesAt s.gk
   obtain ⟨ad, A2, eJ, e, x0, x1, x2, x3, x4, x5⟩ := at_T73 (Kd.qBS hn).2.2 j c c2
   subst e
   obtain ⟨fn, tmps, assign, body, hy, hR⟩ := hY k1 j ns dK wr A2 eJ s hl a1.out x5 x4
   simp only [nodeCells] at hy
   have hy' := am hr
   have HS := am s
   have HL := am hl
   clear hr s hl a1 hn x5 x4
   have p := eq_true c
   have q := eq_true c2
   have eI : decide (0 ≤ j) = true := decide_eq_true c
   gi_wp2
   refine hR.mono ?_
   rintro e W3 ⟨rfl, s3, er⟩
   clear hR hy x0 x1 x2 x3 ci ct
   have ci := (cf1 s3.bi)
   have ct := (cf1 (h.tree s3.gk))
   obtain ⟨ad', A3, c3, e, x0, x1, x2, x3, x4, x5⟩ := at_T73 (Kd.qBS (h.nodesAt s3.gk)).2.2 j c c2
   cases e
   clear x4 x5
   have S3 := am s3
   have L3 := am er
   clear s3 er
   gi_wp2
   gi_roundg k1
   case measure => omega
   case rel => exact ⟨_, _, ⟨S3.out.step h _, hL _ _ L3.out, hy'.out⟩⟩
  ·rw [if_neg c] at hr
   have eI : decide (0 ≤ j) = false := decide_eq_false c
   obtain rfl := Option.some.inj hr
   have HS := am s
   have HL := am hl
   clear s hl hr
   gi_wp2
   go_end0
   exact ⟨⟨_, rfl⟩, ⟨_, HS.out⟩, HL.out⟩

theorem C_kp {k : IntKind} {W W' : World} {B : Option Addr} {n : Nat} {xs : List Int} (h : Kd.C (Kd.int k) W B n xs) (hc : ∀ a u, W.cell? a = some u → W'.cell? a = some u) : Kd.C (Kd.int k) W' B n xs :=
 ⟨h.1, h.2.1, fun hn => by
  obtain ⟨ad, e, hc'⟩ := h.2.2 hn
  exact ⟨ad, e, fun j p hj => by
   obtain ⟨c, hs, hr, hcell⟩ := hc' j p hj
   exact ⟨c, hs, hr, fun i u hu => hc _ _ (hcell i u hu)⟩⟩⟩
theorem cell_put {W : World} {l : Nat} {o o' : Obj} (hl : W.heap[l]? = some o) (ho : o.isCells = false) (a : Addr) (u : Value) (h : W.cell? a = some u) : (W.putObj l o').cell? a = some u := by
 have hne : a.block ≠ l := by
  rintro e
  unfold World.cell? at h
  rw [e, hl] at h
  cases o <;> simp_all [Obj.isCells]
 unfold World.cell? at h ⊢
 rw [World.putObj_heap_other hne]
 exact h
/-- The loop's record. -/
abbrev ancRec (fn : FuncId) (ts : Array Value) (assign body : Code) (D : Nat) (st : LoopState) : Loop := { state := st, pending := none, fn, tmps := ts, params := #[74], assign, body, defers := D }
/-- 'for a := range ancestors(tree, i) { m = omega.Accelerate(a.M, m) }': the box of m then holds what the plain function says. -/
theorem anc_wp {assign body : Code} {Q : Exit → Act → World → Prop} {a : Act} {w : World} {gm gi gt : Nat} {P2 : Nat → Prop} {A : Option Addr} {cap base : Nat} {okN : Nat → Prop} {nodes : List S73} (k : Nat) (i : Int) (ms r : List Int)
  (h : AncW w gm gi gt P2 A cap base okN nodes) (hg : a.eval (.tmp 73) = .func (.func 98) #[] #[.pointer (some ⟨gi, 0, none⟩), .pointer (some ⟨gt, 0, none⟩)])
  (bi : w.heap[gi]? = some (.cells #[.int .i64 i] 3 (0, 0))) (mv : Value) (bm : w.heap[gm]? = some (.cells #[mv] 39 (0, 0))) (hv : Kd.V (Kd.int .i64) 3 w w.heap.size P2 mv ms) (hr : qAI k nodes i ms = some r)
  (hround : ∀ (l : Nat) (A2 : Option Addr) (c2 : Nat) (x : S73) (W : World), ∃ a1 : Act, (∀ K : Act → World → Prop, K a1 (W.alloc (.cells (nodeCells A2 c2 x) 73 (0, 0))) → assign.wpIn (Fence.wide.inRound l) 7 Try.prog (Exit.then K (fun _ _ _ => False)) { tmps := a.tmps.setIfInBounds 74 (.agg (nodeCells A2 c2 x)), defers := [] } W) ∧
   ∀ (W3 : World) (mA : Option Addr) (mc kk : Nat) (ns n1 : List Int) (Post : Exit → Act → World → Prop), W3.heap[W.heap.size]? = some (.cells (nodeCells A2 c2 x) 73 (0, 0)) → W3.heap[gm]? = some (.cells #[.slice mA ns.length mc] 39 (0, 0)) →
   Kd.C (Kd.int .i64) W3 A2 x.f2.length x.f2 → x.f2.length ≤ c2 → Kd.C (Kd.int .i64) W3 mA ns.length ns → ns.length ≤ mc → qAM.f kk x.f2 ns = some n1 →
   (∀ a' W' v, Kd.R (Kd.int .i64) 3 W' W3.heap.size (fun _ => True) v n1 → Below W3.heap.size W3 W' → Post .normal a' (W'.setCell ⟨gm, 0, none⟩ v)) → body.wpIn (Fence.wide.inRound l) 7 Try.prog Post a1 W3)
  (hdone : ∀ (D : Nat) (W : World) (v : Value), Gk w W gm gi → W.heap[gm]? = some (.cells #[v] 39 (0, 0)) → Kd.V (Kd.int .i64) 3 W w.heap.size (fun k => P2 k ∨ w.heap.size ≤ k) v r → W.heap[D]? = some (.deferred (some [])) → w.heap.size ≤ D →
   Q .normal { a with defers := { target := .collected D, args := #[] } :: a.defers } W) :
  (Code.rangeFunc (.tmp 73) #[74] assign body).wp Try.prog Q a w := by
 refine (wpIn_wide (n := 9)).1 (wpIn_rangeFunc ?_)
 intro fn hfn
 obtain ⟨W1, dF⟩ : ∃ W1, (w.alloc (.deferred (some []))).alloc (.loop (ancRec fn a.tmps assign body w.heap.size .ready)) = W1 := ⟨_, rfl⟩
 have eO : W1.heap[w.heap.size + 1]? = some (.loop (ancRec fn a.tmps assign body w.heap.size .ready)) := by
  rw [← dF]; have := World.alloc_heap_new (w.alloc (.deferred (some []))) (.loop (ancRec fn a.tmps assign body w.heap.size .ready)); rwa [World.size_alloc] at this
 have eN : W1.heap[w.heap.size]? = some (.deferred (some [])) := by
  rw [← dF]; exact (Below.heap_alloc _ _ _ (by simp)).trans (World.alloc_heap_new w _)
 have hb1 : Below w.heap.size w W1 := by
  rw [← dF]; exact ((Below.refl _ w).alloc (Nat.le_refl _) _).alloc (by simp) _
 have g1 : Gk w W1 gm gi := (Gk.refl w gm gi).below hb1
 have s1 : AncS w gm gi P2 i ms W1 := ⟨g1, (hb1.block gi h.hi).trans bi, mv, (hb1.block gm h.hm).trans bm, Kd.V_mono (V_kp hv (fun k _ hl => hb1.block k hl)) (fun k hk => .inl hk)⟩
 refine ⟨w.heap.size + 1, [{ target := .collected w.heap.size, args := #[] }], W1, { target := .fn (.func 98) #[.pointer (some ⟨gi, 0, none⟩), .pointer (some ⟨gt, 0, none⟩)], args := #[.func (.yield (w.heap.size + 1)) #[] #[]] }, W1, 98,
  #[.func (.yield (w.heap.size + 1)) #[] #[]] ++ #[.pointer (some ⟨gi, 0, none⟩), .pointer (some ⟨gt, 0, none⟩)], W1, ?_, ?_, ?_, ?_, fun h => (by cases h), ?_⟩
 ·rw [← dF]; exact run_enterLoop_outer _ _ _ _ _
 ·simp only [resolve, hg]
  simp [go_sem]
 ·intro f' _; trivial
 ·simp [invoke, go_sem, Go.Proofs.enters_of Try.func98 (by kernel_rfl) rfl]
 ·have hJ : ∀ {j : Int} {ns : List Int} {W : World}, AncS w gm gi P2 j ns W → gi ≠ w.heap.size + 1 ∧ gi ≠ w.heap.size := fun _ => ⟨by have := h.hi; omega, by have := h.hi; omega⟩
  refine (anc_iter h (w.heap.size + 1) (fun W => W.heap[w.heap.size + 1]? = some (.loop (ancRec fn a.tmps assign body w.heap.size .ready)) ∧ W.heap[w.heap.size]? = some (.deferred (some []))) ?_ ?_ k i ms r W1 s1 ⟨eO, eN⟩ hr).mono ?_
  ·rintro W v ⟨h1, h2⟩
   exact ⟨(Below.heap_setCell W _ _ _ (by have := h.hi; show w.heap.size + 1 ≠ gi; omega)).trans h1, (Below.heap_setCell W _ _ _ (by have := h.hi; show w.heap.size ≠ gi; omega)).trans h2⟩
  ·-- one round
   rintro kk j ns n1 W A2 c2 s ⟨hl, hk⟩ ha hC hc
   have hlt : w.heap.size + 1 < W.heap.size := (Array.getElem?_eq_some_iff.1 hl).1
   have hy := run_yield (P := Try.prog) (args := #[.agg (nodeCells A2 c2 (rd_T73 nodes j))]) hl rfl
   have hz : (((ancRec fn a.tmps assign body w.heap.size .ready).params.zip #[Value.agg (nodeCells A2 c2 (rd_T73 nodes j))]).foldl (fun tmps (t, a) => tmps.setIfInBounds t a) (ancRec fn a.tmps assign body w.heap.size .ready).tmps) = a.tmps.setIfInBounds 74 (.agg (nodeCells A2 c2 (rd_T73 nodes j))) := by simp
   rw [hz] at hy
   obtain ⟨a1, eP, hb1'⟩ := hround (w.heap.size + 1) A2 c2 (rd_T73 nodes j) W
   refine ⟨fn, _, assign, body, hy, roundIn_of_wpIn hfn (eP _ ?_)⟩
   obtain ⟨W2, d3⟩ : ∃ W2, W.alloc (.cells (nodeCells A2 c2 (rd_T73 nodes j)) 73 (0, 0)) = W2 := ⟨_, rfl⟩
   have b2 : Below W.heap.size W W2 := by rw [← d3]; exact (Below.refl _ W).alloc (Nat.le_refl _) _
   have n2 : W2.heap[W.heap.size]? = some (.cells (nodeCells A2 c2 (rd_T73 nodes j)) 73 (0, 0)) := by rw [← d3]; exact World.alloc_heap_new W _
   have l2 : W2.heap[w.heap.size + 1]? = some (.loop (ancRec fn a.tmps assign body w.heap.size .ready)) := (b2.block _ hlt).trans hl
   have k2 : W2.heap[w.heap.size]? = some (.deferred (some [])) := (b2.block _ (by omega)).trans hk
   rw [d3]
   refine ⟨_, run_beginRound l2 rfl, ?_⟩
   obtain ⟨W3, cO⟩ : ∃ W3, W2.putObj (w.heap.size + 1) (.loop (ancRec fn a.tmps assign body w.heap.size .busy)) = W3 := ⟨_, rfl⟩
   have eT : w.heap.size + 1 < W2.heap.size := (Array.getElem?_eq_some_iff.1 l2).1
   have l3 : W3.heap[w.heap.size + 1]? = some (.loop (ancRec fn a.tmps assign body w.heap.size .busy)) := by rw [← cO]; exact World.putObj_heap_same eT
   have o3 : ∀ b, b ≠ w.heap.size + 1 → W3.heap[b]? = W2.heap[b]? := fun b hb => by rw [← cO]; exact World.putObj_heap_other hb
   obtain ⟨v, v1, v2⟩ := s.m
   obtain ⟨mA, mc, rfl, v3, v4⟩ := v2
   have hgm := h.hm
   have hgi := h.hi
   have s3 : AncS w gm gi P2 j ns W3 := by
    have s2 : AncS w gm gi P2 j ns W2 := ⟨s.gk.below b2, (b2.block gi (by omega)).trans s.bi, _, (b2.block gm (by omega)).trans v1, V_kp (W := W) (b := w.heap.size) ⟨mA, mc, rfl, v3, v4⟩ (fun k _ hl => b2.block k hl)⟩
    rw [← cO]; exact s2.put h _ (by omega) (by omega)
   have C3 : Kd.C (Kd.int .i64) W3 A2 (rd_T73 nodes j).f2.length (rd_T73 nodes j).f2 := by
    rw [← cO]; exact C_kp (Kd.qCG hC b2) (cell_put l2 rfl)
   have M3 : Kd.C (Kd.int .i64) W3 mA ns.length ns := by
    rw [← cO]; exact C_kp (Kd.qCG (Kd.F_now v4) b2) (cell_put l2 rfl)
   show body.wpIn (Fence.wide.inRound (w.heap.size + 1)) 7 Try.prog _ _ (W2.putObj (w.heap.size + 1) (.loop (ancRec fn a.tmps assign body w.heap.size .busy)))
   rw [cO]
   refine hb1' W3 mA mc kk ns n1 _ ((o3 _ (by omega)).trans n2) ((o3 _ (by omega)).trans ((b2.block gm (by omega)).trans v1)) C3 hc M3 v3 ha ?_
   intro a' W4 u hu b4
   have z3 : W3.heap.size = W2.heap.size := by rw [← cO]; simp
   have l4 := (b4.block _ (by omega)).trans l3
   have k4 : W4.heap[w.heap.size]? = some (.deferred (some [])) := (b4.block _ (by omega)).trans ((o3 _ (by omega)).trans k2)
   obtain ⟨W5, dG⟩ : ∃ W5, W4.setCell ⟨gm, 0, none⟩ u = W5 := ⟨_, rfl⟩
   have l5 : W5.heap[w.heap.size + 1]? = some (.loop (ancRec fn a.tmps assign body w.heap.size .busy)) := by rw [← dG]; exact (Below.heap_setCell W4 _ _ _ (show w.heap.size + 1 ≠ gm by omega)).trans l4
   have k5 : W5.heap[w.heap.size]? = some (.deferred (some [])) := by rw [← dG]; exact (Below.heap_setCell W4 _ _ _ (show w.heap.size ≠ gm by omega)).trans k4
   have m3 : W3.heap[gm]? = some (.cells #[.slice mA ns.length mc] 39 (0, 0)) := (o3 _ (by omega)).trans ((b2.block gm (by omega)).trans v1)
   have m4 : W4.heap[gm]? = some (.cells #[.slice mA ns.length mc] 39 (0, 0)) := (b4.block gm (by omega)).trans m3
   have s5 : AncS w gm gi P2 j n1 W5 := by
    rw [← dG]
    refine ⟨(s3.gk.below b4).set _ _ (.inl rfl), blk_far ((b4.block gi (by omega)).trans s3.bi) (Ne.symm h.mi) _, u, blk_put m4 0 _ rfl, ?_⟩
    have q := Kd.R_V (base' := w.heap.size) (Kd.R_mono (ok' := fun k => w.heap.size + 2 ≤ k) (Kd.R_bound hu) (fun k hk => by have := hk.2.1; omega))
    exact Kd.V_mono (V_kp q (fun k hk _ => Below.heap_setCell W4 _ _ k (fun e => by have e2 : k = gm := e; omega))) (fun k hk => .inr hk)
   rw [dG]
   refine ⟨_, _, run_endRound (P := Try.prog) none l5, rfl, s5.put h _ (by omega) (by omega), World.putObj_heap_same (Array.getElem?_eq_some_iff.1 l5).1, (World.putObj_heap_other (by omega)).trans k5⟩
  ·-- behind the iterator
   rintro e W2 ⟨⟨v, rfl⟩, i', s2, hl, hk⟩
   obtain ⟨mv', m1, m2⟩ := s2.m
   refine ⟨none, _, run_endLoop (P := Try.prog) hl (by simp), hdone _ _ mv' (s2.gk.put _ (by omega)) ?_ ?_ ?_ (Nat.le_refl _)⟩
   ·exact (World.putObj_heap_other (by have := h.hm; omega)).trans m1
   ·refine Kd.V_mono (V_kp m2 (fun k hk _ => World.putObj_heap_other ?_)) (fun k hk => hk.imp id (fun h1 => by omega))
    rcases hk with hk | hk
    ·have := (h.p2 k hk).2.2; omega
    ·omega
   ·exact (World.putObj_heap_other (by omega)).trans hk
/-! ### A body that leaves marks and returns -/
/-- What a body must achieve. -/
def markPost (P : Program) (fn : Func) (base : Nat) (R : Ending → World → Prop) : Exit → Act → World → Prop
 | .ret, a, w => Marks w base a.defers ∧ ∃ v, (∀ W', (results fn a.tmps).run P W' = .ok v W') ∧ R (.returned v) w
 | _, _, _ => False
/-- Nothing has turned but blocks of deferred calls. -/
structure Shuts (base : Nat) (W W' : World) : Prop where
 size : W'.heap.size = W.heap.size
 os : W'.os = W.os
 tape : W'.tape = W.tape
 output : W'.output = W.output
 block : ∀ k, (k < base ∨ ∃ cs t z, W.heap[k]? = some (.cells cs t z)) → W'.heap[k]? = W.heap[k]?
theorem calls_of_tree {P : Program} {f : FuncId} {fn : Func} {c : Code} {args : Array Value} {w : World} {R : Ending → World → Prop} {base : Nat} (hR : ∀ v W W', R (.returned v) W → Shuts base W W' → R (.returned v) W') (hf : P.funcs[f]? = some fn) (hb : fn.body = some c)
  (h : c.wp P (markPost P fn base R) { tmps := args ++ Array.replicate (fn.ntmps - args.size) undef, defers := [] } w) : Calls P f args w R := by
 refine calls_of_marks hf hb (wp_mono h ?_)
 intro e a' w' hq
 cases e with
 | ret =>
  obtain ⟨hm, v, hr, hR'⟩ := hq
  exact leaves_marks (v := v) _ _ hm (fun W' ⟨_, s1, s2, s3, s4, s5⟩ => ⟨hr W', hR _ _ _ hR' ⟨s1, s2, s3, s4, s5⟩⟩)
 | normal => exact hq.elim
 | exit id => exact hq.elim
 | goto l => exact hq.elim
 | panic ch => exact hq.elim
 | outgrown => exact hq.elim
theorem markRet {P : Program} {fn : Func} {base : Nat} {R : Ending → World → Prop} {a : Act} {w : World} {v : Value} (hr : ∀ W', (results fn a.tmps).run P W' = .ok v W') (hm : Marks w base a.defers) (h : R (.returned v) w) : markPost P fn base R .ret a w := ⟨hm, v, hr, h⟩
theorem Marks.below {W W' : World} {base : Nat} {ds : List Deferred} (h : Marks W base ds) (hb : Below W.heap.size W W') : Marks W' base ds :=
 h.keep (fun D _ hD => (hb.block D (Array.getElem?_eq_some_iff.1 hD).1).trans hD)
theorem Marks.drew {W : World} {base : Nat} {ds : List Deferred} (h : Marks W base ds) : Marks W.drew base ds := h.keep (fun _ _ hD => hD)
theorem Marks.grown {W W' : World} {base : Nat} {ds : List Deferred} {row : Option Nat} (h : Marks W base ds) (hg : W.grownBy W' row) (ht : ∀ k, row = some k → ∃ cs t z, W.heap[k]? = some (.cells cs t z)) : Marks W' base ds :=
 h.keep (fun D _ hD => (hg.block D (Array.getElem?_eq_some_iff.1 hD).1 (by
  intro e
  obtain ⟨cs, t, z, hc⟩ := ht D e.symm
  rw [hc] at hD
  cases hD)).trans hD)
theorem Marks.put {W : World} {base : Nat} {ds : List Deferred} (h : Marks W base ds) (p : Addr) (u : Value) {cs : Array Value} {t : TypeId} {z : Nat × Nat} (hp : W.heap[p.block]? = some (.cells cs t z)) : Marks (W.setCell p u) base ds :=
 h.keep (fun D _ hD => (Below.heap_setCell W p u D (by rintro rfl; rw [hp] at hD; cases hD)).trans hD)
theorem Marks.gk {w W : World} {base gm gi D : Nat} {ds : List Deferred} (h : Marks w base ds) (g : Gk w W gm gi) {cs cs' : Array Value} {t t' : TypeId} {z z' : Nat × Nat} (hm : w.heap[gm]? = some (.cells cs t z)) (hi : w.heap[gi]? = some (.cells cs' t' z')) (hD : W.heap[D]? = some (.deferred (some []))) (hge : w.heap.size ≤ D) (hb : base ≤ w.heap.size) : Marks W base ({ target := .collected D, args := #[] } :: ds) :=
 h.cons (fun D' hl _ hD' => (g.block D' hl (by rintro rfl; rw [hm] at hD'; cases hD') (by rintro rfl; rw [hi] at hD'; cases hD')).trans hD') hD hge (Nat.le_trans hb hge)
theorem F_cells {W : World} {ok : Nat → Prop} {A : Option Addr} {n : Nat} {xs : List Int} {k : IntKind} (h : Kd.F (Kd.int k) W ok A n xs) : Kd.F (Kd.int k) W (fun b => ok b ∧ ∃ cs t z, W.heap[b]? = some (.cells cs t z)) A n xs := by
 intro W' hW
 have h0 := Kd.F_now h
 refine ⟨h0.1, h0.2.1, fun hn => ?_⟩
 obtain ⟨ad, e, hc⟩ := h0.2.2 hn
 have hlen : 0 < n := by have := h0.1; have := h0.2.1; omega
 obtain ⟨ad', c, e', hcl, hK, hcc, hok⟩ := Kd.F_get h 0 0 (by omega) (by omega)
 rw [e] at e'
 obtain rfl := Option.some.inj e'
 have hs : (Kd.int k).sz = 1 := rfl
 have h1 := hcc 0 _ (List.getElem?_eq_getElem (by omega))
 have hcell : ∃ cs t z, W.heap[ad.block]? = some (.cells cs t z) := by
  unfold World.cell? at h1
  rw [qBU] at h1
  cases hb : W.heap[ad.block]? with
  | none => rw [hb] at h1; simp at h1
  | some o => cases o <;> simp_all
 have hb := hW ad.block ⟨hok (by omega), hcell⟩ (by obtain ⟨cs, t, z, hx⟩ := hcell; exact (Array.getElem?_eq_some_iff.1 hx).1)
 refine ⟨ad, e, fun j p hj => ?_⟩
 obtain ⟨c, hs, hr, hcell⟩ := hc j p hj
 refine ⟨c, hs, hr, fun i u hu => ?_⟩
 have := hcell i u hu
 unfold World.cell? at this ⊢
 rw [qBU] at this ⊢
 rw [hb]
 exact this
theorem N_cells {W : World} {base : Nat} {ok : Nat → Prop} {v : Value} {xs : List S73} (h : Kd.N k73 73 W base ok v xs) : Kd.N k73 73 W base (fun b => ok b ∧ ∃ cs t z, W.heap[b]? = some (.cells cs t z)) v xs := by
 have ht := Kd.N_typed h
 obtain ⟨h0, rows, hl, hR, hf⟩ := h
 refine ⟨fun k hk => ⟨h0 k hk, ?_⟩, rows, hl, hR, fun j x c hx hc => ?_⟩
 ·obtain ⟨cs, hc⟩ := ht k hk
  exact ⟨cs, _, _, hc⟩
 ·obtain ⟨A2, c2, rfl, l2, g2⟩ := k73_openF (hf j x c hx hc)
  refine k73_mkF _ _ _ l2 ?_
  exact Kd.F_mono (F_cells g2) (fun k hk => ⟨⟨hk.1.1, hk.2⟩, hk.1.2⟩)
theorem Shuts.below {base : Nat} {w W W' : World} (h : Below base w W) (s : Shuts base W W') : Below base w W' :=
 ⟨s.os.trans h.os, s.tape.trans h.tape, s.output.trans h.output, by rw [s.size]; exact h.size, fun k hk => (s.block k (.inl hk)).trans (h.block k hk)⟩
theorem Shuts.n {base base' : Nat} {ok : Nat → Prop} {W W' : World} {v : Value} {xs : List S73} (h : Kd.N k73 73 W base' ok v xs) (s : Shuts base W W') : Kd.N k73 73 W' base' ok v xs :=
 Kd.N_mono (Kd.N_step (N_cells h) (fun k hk _ => s.block k (.inr hk.2))) (fun _ hk => hk.1)
theorem Marks.alloc {W : World} {base : Nat} {ds : List Deferred} (h : Marks W base ds) (o : Obj) : Marks (W.alloc o) base ds := h.below (qCA (Below.refl _ _) o)
theorem Marks.drewN {W : World} {base : Nat} {ds : List Deferred} (h : Marks W base ds) (m : Nat) : Marks (W.drewN m) base ds := h.below (qCC (Below.refl _ _) m)
theorem pmk {p q : Prop} (h : p) (hq : p → q := by intro h_; (with_reducible repeat (first | refine Marks.alloc ?_ _ | refine Marks.drewN ?_ _ | refine Marks.drew ?_)); exact h_) : q := hq h
theorem mbw {base : Nat} {ds : List Deferred} {W w1 : World} {p : Prop} (H : Aside0 p) (hb : Below W.heap.size W w1) (hq : p → Marks W base ds := by intro h_; (with_reducible repeat (first | refine Marks.alloc ?_ _ | refine Marks.drewN ?_ _ | refine Marks.drew ?_)); exact h_) : Aside0 (Marks w1 base ds) := ⟨(hq H.1).below hb⟩
theorem below_put {base : Nat} {w W : World} (h : Below base w W) {p : Addr} (u : Value) (hp : base ≤ p.block) : Below base w (W.setCell p u) :=
 ⟨h.os, h.tape, h.output, by simp [World.setCell]; exact h.size, fun k hk => (Below.heap_setCell W p u k (by omega)).trans (h.block k hk)⟩
section
variable {P : Program} {md : Region.Mode} {ops : Array Oper} {Q : Exit → Act → World → Prop} {S : World → Prop} {ds : List Nat} {T : Bool × List (List Nat × List Nat)} {fuel : Nat} {l li lj : Array Bool} {a : Act} {w : World} {oi oj : Oper}
/-- Two operations may come next. -/
theorem both (hT : rtab md ops = T) (i j : Nat) (Ni Nj : Option Tmp) (hi : ops[i]? = some oi) (hj : ops[j]? = some oj)
  (h1 : ∀ K : Act → World → Prop, Shut (∀ a' w', S w' → (S w' → qBZ P md ops Q S ds fuel li a' w') → K a' w') → if Region.wanted oi (yielded ops a.tmps) = true then Oper.wp P oi a w K Q else K (a.put Ni undef) w)
  (h2 : ∀ K : Act → World → Prop, Shut (∀ a' w', S w' → (S w' → qBZ P md ops Q S ds fuel lj a' w') → K a' w') → if Region.wanted oj (yielded ops a.tmps) = true then Oper.wp P oj a w K Q else K (a.put Nj undef) w)
  (hNi : oi.dst = Ni := by rfl) (hNj : oj.dst = Nj := by rfl)
  (hli : l.setIfInBounds i true = li := by simp only [List.setIfInBounds_toArray, List.set_cons_zero, List.set_cons_succ]; rfl) (hlj : l.setIfInBounds j true = lj := by simp only [List.setIfInBounds_toArray, List.set_cons_zero, List.set_cons_succ]; rfl)
  (hc : (readyT T.2 l.toList == [i, j]) = true := by kernel_rfl) (hdi : i ∉ ds := by decide) (hdj : j ∉ ds := by decide) : qBZ P md ops Q S ds (fuel + 1) l a w := by
 have hr : Region.ready md ops l = [i, j] := by
  subst hT
  rw [ready_eq]
  simpa using hc
 subst hNi
 subst hNj
 subst hli
 subst hlj
 exact wpAnyLast_ready hr (by simp) (AllReadyL.cons hi hdi (fun K hK => h1 K hK) (AllReadyL.cons hj hdj (fun K hK => h2 K hK) AllReadyL.nil))
/-- What follows, once. -/
theorem jn_ {α β : Type} (fuel' : Nat) (l' : Array Bool) (g : α → β → Act) (F : α → β → World → Prop)
  (h : (∀ x y w', F x y w' → qBZ P md ops Q S ds fuel' l' (g x y) w') → qBZ P md ops Q S ds fuel l a w) (hcont : ∀ x y w', F x y w' → qBZ P md ops Q S ds fuel' l' (g x y) w') : qBZ P md ops Q S ds fuel l a w := h hcont
/-- A block is made. -/
theorem boxes_ {oi : Oper} {N : Nat} {cs : Array Value} {t : TypeId} {K : Act → World → Prop} (hw : Region.wanted oi (yielded ops a.tmps) = true) (hN : oi.dst = some N)
  (hrun : (execOp a.eval oi).run P w = .ok (.value (.pointer (some ⟨w.heap.size, 0, none⟩))) (w.alloc (.cells cs t (0, 0))))
  (h : ∀ g, g = w.heap.size → ∀ w1, w1.heap[g]? = some (.cells cs t (0, 0)) → Below w.heap.size w w1 → K (a.put (some N) (.pointer (some ⟨g, 0, none⟩))) w1) : if Region.wanted oi (yielded ops a.tmps) = true then Oper.wp P oi a w K Q else K (a.put (some N) undef) w :=
 value_ hw hN hrun (h _ rfl _ (blk_new w _) (qCA (Below.refl _ _) _))
end
theorem noGotoRet {Q : Exit → Act → World → Prop} {a : Act} {w : World} (h : Q .ret a w) : Exit.noGoto Q .ret a w := h
theorem markRet3 {P : Program} {fn : Func} {base : Nat} {R : Ending → World → Prop} {a : Act} {w : World} {t u v : Tmp} (h : fn.results = #[.tmp t, .tmp u, .tmp v]) (hm : Marks w base a.defers)
  (hR : R (.returned (.tuple #[a.tmps.getD t undef, a.tmps.getD u undef, a.tmps.getD v undef])) w) : markPost P fn base R .ret a w := ⟨hm, _, fun W' => results_tmp3 h _ _ W', hR⟩
attribute [local go_sem] max2_int min2_int max_two min_two max_three min_three max_four min_four
mutual
def qAC.j0 : Nat → Int → Bool → ByteArray → List (S64) → List (S38) → Option ((List (S73)) × Bool × Int)
 | 0, _, _, _, _, _ => none
 | k + 1, x1, fg, au, av, aw => if fg = true then (some (([] : List (S73)), false, 1)) else ((net_Initial.f k au av aw).bind fun bD => (qAC.l0 k x1 (([(⟨(-1), (-1), bD, false⟩ : S73)] : List (S73))) 0 au av aw))
def qAC.l0 : Nat → Int → List (S73) → Int → ByteArray → List (S64) → List (S38) → Option ((List (S73)) × Bool × Int)
 | 0, _, _, _, _, _, _ => none
 | k + 1, x1, x8, x9, au, av, aw => if x9 < (x8.length : Int) then (if 0 ≤ x9 then (if (rd_T73 x8 x9).f3 = true then (qAC.l0 k x1 x8 (wrap64 (x9 + 1)) au av aw) else ((qAE.f k au av aw ((rd_T73 x8 x9).f2)).bind fun ar => (qAC.l1 k x1 x8 x9 ar (ar.length : Int) 0 au av aw))) else (none)) else (some (x8, true, 0))
def qAC.l1 : Nat → Int → List (S73) → Int → List Int → Int → Int → ByteArray → List (S64) → List (S38) → Option ((List (S73)) × Bool × Int)
 | 0, _, _, _, _, _, _, _, _, _ => none
 | k + 1, x1, x8, x9, dP, ew, cY, au, av, aw => if cY < ew then (if 0 ≤ cY then (if cY < (dP.length : Int) then (if 0 ≤ x9 then (if x9 < (x8.length : Int) then ((qAK.f k au av aw ((rd_T73 x8 x9).f2) (rd dP cY)).bind fun cA => (if cA.2 = true then ((qAI k x8 x9 cA.1).bind fun a9 => (if (x8.length : Int) ≥ x1 then (some (x8, false, 0)) else ((qAG.f k x8 a9).bind fun bL => (if x8.length < 2932031007402 then (qAC.l1 k x1 (x8 ++ [(⟨x9, rd dP cY, a9, bL⟩ : S73)]) x9 dP ew (wrap64 (cY + 1)) au av aw) else (none))))) else (some (([] : List (S73)), false, 3)))) else (none)) else (none)) else (none)) else (none)) else (qAC.l0 k x1 x8 (wrap64 (x9 + 1)) au av aw)
end
def qAC.f (k : Nat) (ao : ByteArray) (ak : List (S64)) (al : List (S38)) (a1 : Int) : Option ((List (S73)) × Bool × Int) := (qBD.f k ao ak al).bind fun cz => (if cz.1 = 0 then ((qBE.f k ao ak al).bind fun cS => (if cS = true then (if a1 < 1 then (qAC.j0 k a1 true ao ak al) else (qAC.j0 k a1 (decide (a1 > 20000)) ao ak al)) else (some (([] : List (S73)), false, 12)))) else (some (([] : List (S73)), false, cz.1)))
theorem qAC.mono_l : ∀ k, M5 qAC.j0 k ∧ M6 qAC.l0 k ∧ M9 qAC.l1 k
 | 0 => ⟨fun _ _ _ _ _ r h => by simp [qAC.j0] at h, fun _ _ _ _ _ _ r h => by simp [qAC.l0] at h, fun _ _ _ _ _ _ _ _ _ r h => by simp [qAC.l1] at h⟩
 | k + 1 => by
  obtain ⟨d6, d7, d8⟩ := qAC.mono_l k
  refine ⟨?_, ?_, ?_⟩ <;> dsimp only [M5, M6, M9] <;> intros <;> (first | unfold qAC.j0 | unfold qAC.l0 | unfold qAC.l1) <;> repeat' first | (with_reducible first | apply d6 | apply d7 | apply d8 | apply qAE.mono | apply qAK.mono | apply qAG.mono | apply qBD.mono | apply net_Initial.mono | apply qBE.mono | apply qAI.mono | apply lr | apply ln | apply li | refine lb ?_ fun _ => ?_)
theorem qAC.mono : ∀ a0 a1 a2 a3 k, LeO (qAC.f k a0 a1 a2 a3) (qAC.f (k + 1) a0 a1 a2 a3) := by
 intro a0 a1 a2 a3 k
 obtain ⟨d6, d7, d8⟩ := qAC.mono_l k
 unfold qAC.f
 repeat' first | (with_reducible first | apply d6 | apply d7 | apply d8 | apply qAE.mono | apply qAK.mono | apply qAG.mono | apply qBD.mono | apply net_Initial.mono | apply qBE.mono | apply qAI.mono | apply lr | apply ln | apply li | refine lb ?_ fun _ => ?_)
def qAC.T13 : Bool × List (List Nat × List Nat) := (true, [([], []), ([], []), ([], []), ([1, 2], [1, 2]), ([3], [3]), ([4], [4]), ([0, 5], [0, 5]), ([6], [6]), ([], [])])
def qAC.B13 : List Nat := [0, 0, 0, 6, 14, 30, 63, 127, 0]
theorem qAC.tab13 : rtab .any (opsOf Try.f35 13) = qAC.T13 := by kernel_rfl
theorem qAC.bits13 : waitsOk qAC.T13.2 qAC.B13 = true := by kernel_rfl
def qAC.T16 : Bool × List (List Nat × List Nat) := (true, [([], []), ([], []), ([], []), ([1, 2], [1, 2]), ([3], [3]), ([4], [4]), ([], []), ([0, 5, 6], [0, 5, 6]), ([7], [7]), ([8], [8]), ([8], [8]), ([], []), ([11, 9, 7, 0, 1, 2, 3, 4, 5, 6, 7, 8, 9, 11], [9, 11]), ([10, 12, 0, 1, 2, 3, 4, 5, 6, 7, 8, 9, 10, 11, 12], [10])])
def qAC.B16 : List Nat := [0, 0, 0, 6, 14, 30, 0, 127, 255, 511, 511, 0, 3071, 8191]
theorem qAC.tab16 : rtab .any (opsOf Try.f35 16) = qAC.T16 := by kernel_rfl
theorem qAC.bits16 : waitsOk qAC.T16.2 qAC.B16 = true := by kernel_rfl
def qAC.T24 : Bool × List (List Nat × List Nat) := (true, [([], []), ([], []), ([], []), ([], []), ([], []), ([], []), ([4, 5], [4, 5]), ([1, 2, 3, 6], [1, 2, 3, 6]), ([7], [7]), ([0, 8, 6], [0, 8]), ([9, 9, 0, 1, 2, 3, 4, 5, 6, 7, 8, 9], [0, 4, 9])])
def qAC.B24 : List Nat := [0, 0, 0, 0, 0, 0, 48, 126, 254, 511, 1023]
theorem qAC.tab24 : rtab .any (opsOf Try.f35 24) = qAC.T24 := by kernel_rfl
theorem qAC.bits24 : waitsOk qAC.T24.2 qAC.B24 = true := by kernel_rfl
theorem qAC.calls (k : Nat) (ao : ByteArray) (aA : Option Addr) (aE : Nat) (ak : List (S64)) (aC : Option Addr) (aG : Nat) (al : List (S38)) (a1 : Int) (r1 : List (S73)) (r2 : Bool) (r3 : Int) (w : World) (cE : Kd.C k64 w aA ak.length ak) (cC : ak.length ≤ aE) (cF : Kd.C k38 w aC al.length al) (cD : al.length ≤ aG) (h : qAC.f k ao ak al a1 = some (r1, r2, r3)) :
  Calls Try.prog 35 #[.agg #[.string ao, .slice aA ak.length aE, .slice aC al.length aG], .int .i64 a1] w fun e w' => ∃ v0_ : Value, e = .returned (.tuple #[v0_, .bool r2, .int .i64 r3]) ∧ Kd.N k73 73 w' w.heap.size (fun k_ => (w.heap.size ≤ k_)) v0_ r1 ∧ Below w.heap.size w w' := by
 have eQ := Try.underlying25
 have eS := Try.underlying48
 have eR := Try.underlying73
 have aR := am cE
 have aN := am cC
 clear cE cC
 have aT := am cF
 have aQ := am cD
 clear cF cD
 have HB := am (Below.refl w.heap.size w)
 have H := h
 unfold qAC.f at H
 clear h
 replace H := bnd H
 obtain ⟨⟨aJ, aK⟩, A3, H⟩ := H
 (try dsimp only at H)
 replace H := ife H
 rcases H with ⟨cm, cn, H⟩ | ⟨cm, cn, H⟩
 rotate_left
 ·simp only [Option.some.injEq, Prod.mk.injEq] at H
  obtain ⟨rfl, rfl, rfl⟩ := H
  refine calls_of_tree (base := w.heap.size) (fun v_ W_ W'_ ⟨v0_, e_, h1_, h2_⟩ s_ => ⟨v0_, e_, Shuts.n h1_ s_, Shuts.below h2_ s_⟩) Try.func35 rfl ?_
  simp only [Try.ntmps35, List.size_toArray, List.length_cons, List.length_nil, Nat.reduceAdd, Nat.reduceSub, Array.replicate_succ, Array.replicate_zero, List.push_toArray, List.append_toArray, List.nil_append, List.cons_append]
  try go_wp2_with (first | ((with_reducible refine qBN (N := 2) rfl ?_); refine box_ev ?_; intro af hg fd hbox hb; have aa := am hbox; have aY := gwl hg; have bN := aY; replace HB := bsl hb; clear hb hbox hg; have ea := cf3 aa.1) | ((with_reducible refine qBO (f := 62) rfl ?_); refine gC 16 Try.func62 _ (qBD.calls k ao _ _ ak _ _ al aJ aK _ (csb aR HB) aN.1 (csb aT HB) aQ.1 A3.1) ?_; rintro e fe ⟨rfl, hb⟩; refine ⟨_, rfl, ?_⟩; replace aa := bbh aa hb; replace HB := bst hb; (try clear hb)) | ((with_reducible refine qBN (N := 7) rfl ?_); refine box_ev ?_; intro ah hg dz hbox hb; have ac := am hbox; have aZ := gwb hg; have bO := aZ; have ai := nlt hg aa; have ap := ngt hg aa; replace aa := bbh aa hb; replace HB := bst hb; clear hb hbox hg; have dw := ap.1; have dy := ai.1; have ec := cf2 ac.1))
  iterate 2 (try (go_step3; go_wp2_with (first | ((with_reducible refine qBN (N := 2) rfl ?_); refine box_ev ?_; intro af hg fd hbox hb; have aa := am hbox; have aY := gwl hg; have bN := aY; replace HB := bsl hb; clear hb hbox hg; have ea := cf3 aa.1) | ((with_reducible refine qBO (f := 62) rfl ?_); refine gC 16 Try.func62 _ (qBD.calls k ao _ _ ak _ _ al aJ aK _ (csb aR HB) aN.1 (csb aT HB) aQ.1 A3.1) ?_; rintro e fe ⟨rfl, hb⟩; refine ⟨_, rfl, ?_⟩; replace aa := bbh aa hb; replace HB := bst hb; (try clear hb)) | ((with_reducible refine qBN (N := 7) rfl ?_); refine box_ev ?_; intro ah hg dz hbox hb; have ac := am hbox; have aZ := gwb hg; have bO := aZ; have ai := nlt hg aa; have ap := ngt hg aa; replace aa := bbh aa hb; replace HB := bst hb; clear hb hbox hg; have dw := ap.1; have dy := ai.1; have ec := cf2 ac.1))))
  have n0_ : Aside0 (((dz.setCell ⟨ah, 0, none⟩ (.int .i64 aJ)).setCell ⟨ah, 1, none⟩ (.int .i64 aK)).heap[af]? = some (.cells #[.string ao, .slice aA ak.length aE, .slice aC al.length aG] 25 (0, 0))) := ⟨by (with_reducible repeat (first | refine qBK ?_ _ | refine qBM ?_ | refine qBL ?_ _)); refine bf2 ?_ ai.1; exact pbk aa.1⟩
  have n1_ : Aside0 (((dz.setCell ⟨ah, 0, none⟩ (.int .i64 aJ)).setCell ⟨ah, 1, none⟩ (.int .i64 aK)).heap[ah]? = some (.cells #[.int .i64 aJ, .int .i64 aK] 48 (0, 0))) := ⟨by (with_reducible repeat (first | refine qBK ?_ _ | refine qBM ?_ | refine qBL ?_ _)); exact bp2 (pbk ac.1)⟩
  have n2_ : Aside0 (Below w.heap.size w ((dz.setCell ⟨ah, 0, none⟩ (.int .i64 aJ)).setCell ⟨ah, 1, none⟩ (.int .i64 aK))) := ⟨pbg⟩
  (try clear aa)
  (try clear ac)
  (try clear HB)
  generalize ((dz.setCell ⟨ah, 0, none⟩ (.int .i64 aJ)).setCell ⟨ah, 1, none⟩ (.int .i64 aK)) = ff at n0_ n1_ n2_ ⊢
  have aa := n0_
  have ac := n1_
  have HB := n2_
  clear n0_ n1_ n2_
  replace aa := am (qBM aa.1)
  replace ac := am (qBM ac.1)
  replace HB := am (qCB HB.1)
  refine start_ (n := 5) (S := fun w' => w'.cell? ⟨ah, 0, none⟩ = some (.int .i64 aJ) ∧ w'.cell? ⟨ah, 1, none⟩ = some (.int .i64 aK)) (ds := []) #[false, false, false, false, false] (by kernel_rfl) rfl rfl ⟨(qBI ac.1 0).trans rfl, (qBI ac.1 1).trans rfl⟩ (fun hHeld => ?_)
  generalize ff.drew = fA at aa ac HB hHeld ⊢
  refine pure_ (i := 0) (N := some 20) (v := ?_) (a' := ?_) #[true, false, false, false, false] rfl rfl (by kernel_rfl) (fun _ _ _ h => h) (Or.inl ⟨by rfl, ?_⟩) ?_ ?_
  rotate_left
  ·intro w'
   go_simp
   with_reducible rfl
  rotate_left
  ·simp only [Act.put, List.setIfInBounds_toArray, List.set_cons_zero, List.set_cons_succ, i64_w, i32_w]
   rfl
  refine pure_ (i := 2) (N := some 4) (v := ?_) (a' := ?_) #[true, false, true, false, false] rfl rfl (by kernel_rfl) (fun _ _ _ h => h) (Or.inl ⟨by rfl, ?_⟩) ?_ ?_
  rotate_left
  ·intro w'
   go_simp
   with_reducible rfl
  rotate_left
  ·simp only [Act.put, List.setIfInBounds_toArray, List.set_cons_zero, List.set_cons_succ, i64_w, i32_w]
   rfl
  refine pure_ (i := 3) (N := some 5) (v := ?_) (a' := ?_) #[true, false, true, true, false] rfl rfl (by kernel_rfl) (fun _ _ _ h => h) (Or.inl ⟨by rfl, ?_⟩) ?_ ?_
  rotate_left
  ·intro w'
   go_simp
   with_reducible rfl
  rotate_left
  ·simp only [Act.put, List.setIfInBounds_toArray, List.set_cons_zero, List.set_cons_succ, i64_w, i32_w]
   rfl
  refine take_ (i := 1) (N := some 21) (v := ?_) (a' := ?_) #[true, true, true, true, false] rfl rfl (by kernel_rfl) (fun _ _ _ h => h) (Or.inl ⟨by rfl, ?_⟩) hHeld ?_ ?_
  rotate_left
  ·rintro w' ⟨s0, s1⟩
   go_simp
   with_reducible rfl
  rotate_left
  ·simp only [Act.put, List.setIfInBounds_toArray, List.set_cons_zero, List.set_cons_succ, i64_w, i32_w]
   rfl
  refine pure_ (i := 4) (N := some 6) (v := ?_) (a' := ?_) #[true, true, true, true, true] rfl rfl (by kernel_rfl) (fun _ _ _ h => h) (Or.inl ⟨by rfl, ?_⟩) ?_ ?_
  rotate_left
  ·intro w'
   go_simp
   with_reducible rfl
  rotate_left
  ·simp only [Act.put, List.setIfInBounds_toArray, List.set_cons_zero, List.set_cons_succ, i64_w, i32_w]
   rfl
  refine done_ (by kernel_rfl) ?_
  try go_wp2
  iterate 2 (try (go_step3; go_wp2))
  (try simp only [Exit.inBlock, Exit.then])
  (try refine noGotoRet ?_)
  refine markRet3 rfl ?m_ ?_
  case m_ => exact Marks.nil _ _
  exact ⟨_, per, knl, pbg⟩
 replace H := bnd H
 obtain ⟨cS, A5, H⟩ := H
 (try dsimp only at H)
 cases cS
 ·rw [if_neg Bool.false_ne_true] at H
  simp only [Option.some.injEq, Prod.mk.injEq] at H
  obtain ⟨rfl, rfl, rfl⟩ := H
  refine calls_of_tree (base := w.heap.size) (fun v_ W_ W'_ ⟨v0_, e_, h1_, h2_⟩ s_ => ⟨v0_, e_, Shuts.n h1_ s_, Shuts.below h2_ s_⟩) Try.func35 rfl ?_
  simp only [Try.ntmps35, List.size_toArray, List.length_cons, List.length_nil, Nat.reduceAdd, Nat.reduceSub, Array.replicate_succ, Array.replicate_zero, List.push_toArray, List.append_toArray, List.nil_append, List.cons_append]
  have fl_ := trivial
  iterate 3 (try ((first | clear fl_ | go_step3); go_wp2_with (first | ((with_reducible refine qBN (N := 2) rfl ?_); refine box_ev ?_; intro af hg fv hbox hb; have aa := am hbox; have aY := gwl hg; have bN := aY; replace HB := bsl hb; clear hb hbox hg; have fh := cf3 aa.1) | ((with_reducible refine qBO (f := 62) rfl ?_); refine gC 16 Try.func62 _ (qBD.calls k ao _ _ ak _ _ al aJ aK _ (csb aR HB) aN.1 (csb aT HB) aQ.1 A3.1) ?_; rintro e fw ⟨rfl, hb⟩; refine ⟨_, rfl, ?_⟩; replace aa := bbh aa hb; replace HB := bst hb; (try clear hb)) | ((with_reducible refine qBN (N := 7) rfl ?_); refine box_ev ?_; intro ah hg fx hbox hb; have ac := am hbox; have aZ := gwb hg; have bO := aZ; have ai := nlt hg aa; have ap := ngt hg aa; replace aa := bbh aa hb; replace HB := bst hb; clear hb hbox hg; have et := ap.1; have ev := ai.1; have fi := cf2 ac.1; have fj := cf3 aa.1) | ((with_reducible refine qBO (f := 63) rfl ?_); refine gC 23 Try.func63 _ (qBE.calls k ao _ _ ak _ _ al false _ (Kd.qCG aR.1 pbg) aN.1 (Kd.qCG aT.1 pbg) aQ.1 A5.1) ?_; rintro e fz ⟨rfl, hb⟩; refine ⟨_, rfl, ?_⟩; replace aa := bbx aa (fun h_ => by (with_reducible repeat (first | refine qBK ?_ _ | refine qBM ?_ | refine qBL ?_ _)); refine bf2 ?_ ai.1; exact pbk h_) hb; replace ac := am (qCF (g := ah) (o := .cells #[.int .i64 aJ, .int .i64 aK] 48 (0, 0)) (by (with_reducible repeat (first | refine qBK ?_ _ | refine qBM ?_ | refine qBL ?_ _)); exact bp2 (pbk ac.1)) hb); replace HB := bst hb; (try clear hb)))))
  (try simp only [Exit.inBlock, Exit.then])
  (try refine noGotoRet ?_)
  refine markRet3 rfl ?m_ ?_
  case m_ => exact Marks.nil _ _
  exact ⟨_, per, knl, pbg⟩
 rw [if_pos rfl] at H
 have dS := am H
 clear H
 refine calls_of_tree (base := w.heap.size) (fun v_ W_ W'_ ⟨v0_, e_, h1_, h2_⟩ s_ => ⟨v0_, e_, Shuts.n h1_ s_, Shuts.below h2_ s_⟩) Try.func35 rfl ?_
 simp only [Try.ntmps35, List.size_toArray, List.length_cons, List.length_nil, Nat.reduceAdd, Nat.reduceSub, Array.replicate_succ, Array.replicate_zero, List.push_toArray, List.append_toArray, List.nil_append, List.cons_append]
 go_upto_region 6 with (first | ((with_reducible refine qBN (N := 2) rfl ?_); refine box_ev ?_; intro af hg w8 hbox hb; have aa := am hbox; have aY := gwl hg; have bN := aY; replace HB := bsl hb; clear hb hbox hg; have dQ := cf3 aa.1) | ((with_reducible refine qBO (f := 62) rfl ?_); refine gC 16 Try.func62 _ (qBD.calls k ao _ _ ak _ _ al aJ aK _ (csb aR HB) aN.1 (csb aT HB) aQ.1 A3.1) ?_; rintro e e5 ⟨rfl, hb⟩; refine ⟨_, rfl, ?_⟩; replace aa := bbh aa hb; replace HB := bst hb; (try clear hb)) | ((with_reducible refine qBN (N := 7) rfl ?_); refine box_ev ?_; intro ah hg e6 hbox hb; have ac := am hbox; have aZ := gwb hg; have bO := aZ; have ai := nlt hg aa; have ap := ngt hg aa; replace aa := bbh aa hb; replace HB := bst hb; clear hb hbox hg; have dv := ap.1; have dx := ai.1; have cv := cf2 ac.1; have cw := cf3 aa.1) | ((with_reducible refine qBO (f := 63) rfl ?_); refine gC 23 Try.func63 _ (qBE.calls k ao _ _ ak _ _ al true _ (Kd.qCG aR.1 pbg) aN.1 (Kd.qCG aT.1 pbg) aQ.1 A5.1) ?_; rintro e e7 ⟨rfl, hb⟩; refine ⟨_, rfl, ?_⟩; replace aa := bbx aa (fun h_ => by (with_reducible repeat (first | refine qBK ?_ _ | refine qBM ?_ | refine qBL ?_ _)); refine bf2 ?_ ai.1; exact pbk h_) hb; replace ac := am (qCF (g := ah) (o := .cells #[.int .i64 aJ, .int .i64 aK] 48 (0, 0)) (by (with_reducible repeat (first | refine qBK ?_ _ | refine qBM ?_ | refine qBL ?_ _)); exact bp2 (pbk ac.1)) hb); replace HB := bst hb; (try clear hb)))
 iterate 2 (try (go_step3; go_upto_region 6 with (first | ((with_reducible refine qBN (N := 2) rfl ?_); refine box_ev ?_; intro af hg w8 hbox hb; have aa := am hbox; have aY := gwl hg; have bN := aY; replace HB := bsl hb; clear hb hbox hg; have dQ := cf3 aa.1) | ((with_reducible refine qBO (f := 62) rfl ?_); refine gC 16 Try.func62 _ (qBD.calls k ao _ _ ak _ _ al aJ aK _ (csb aR HB) aN.1 (csb aT HB) aQ.1 A3.1) ?_; rintro e e5 ⟨rfl, hb⟩; refine ⟨_, rfl, ?_⟩; replace aa := bbh aa hb; replace HB := bst hb; (try clear hb)) | ((with_reducible refine qBN (N := 7) rfl ?_); refine box_ev ?_; intro ah hg e6 hbox hb; have ac := am hbox; have aZ := gwb hg; have bO := aZ; have ai := nlt hg aa; have ap := ngt hg aa; replace aa := bbh aa hb; replace HB := bst hb; clear hb hbox hg; have dv := ap.1; have dx := ai.1; have cv := cf2 ac.1; have cw := cf3 aa.1) | ((with_reducible refine qBO (f := 63) rfl ?_); refine gC 23 Try.func63 _ (qBE.calls k ao _ _ ak _ _ al true _ (Kd.qCG aR.1 pbg) aN.1 (Kd.qCG aT.1 pbg) aQ.1 A5.1) ?_; rintro e e7 ⟨rfl, hb⟩; refine ⟨_, rfl, ?_⟩; replace aa := bbx aa (fun h_ => by (with_reducible repeat (first | refine qBK ?_ _ | refine qBM ?_ | refine qBL ?_ _)); refine bf2 ?_ ai.1; exact pbk h_) hb; replace ac := am (qCF (g := ah) (o := .cells #[.int .i64 aJ, .int .i64 aK] 48 (0, 0)) (by (with_reducible repeat (first | refine qBK ?_ _ | refine qBM ?_ | refine qBL ?_ _)); exact bp2 (pbk ac.1)) hb); replace HB := bst hb; (try clear hb)))))
 (try simp only [Act.put, List.setIfInBounds_toArray, List.set_cons_zero, List.set_cons_succ])
 let bp_ := bodyPost Try.prog Try.f35 (fun _ _ => True)
 go_cut [30] (fun e0 wc => ∃ (kq : Nat) (b0 : Bool), e0 = .bool b0 ∧ Aside0 (qAC.j0 kq a1 b0 ao ak al = some (r1, r2, r3)) ∧ Aside0 (kq ≤ k) ∧ Aside0 (wc.heap[af]? = some (.cells #[.string ao, (.slice aA ak.length aE), (.slice aC al.length aG)] 25 (0, 0))) ∧ Aside0 (wc.heap[ah]? = some (.cells #[.int .i64 aJ, .int .i64 aK] 48 (0, 0))) ∧ Aside0 (Below w.heap.size w wc))
 case first =>
  clear bp_
  have H := dS.1
  clear dS
  replace H := ifl H
  rcases H with ⟨ba, H⟩ | ⟨ba, H⟩
  ·(first | rw [ba] | (simp only [i64_w, i32_w]; rw [ba]) | skip)
   have H' := am H
   clear H
   have fl_ := trivial
   iterate 3 (try ((first | clear fl_ | go_step3); go_wp2))
   go_meet
   case rel => exact ⟨_, (true), prs, H', ⟨by first | omega | exact Nat.le_refl _⟩, ⟨pbk aa.1⟩, ⟨pbk ac.1⟩, ⟨pbg⟩⟩
  (first | rw [ba] | (simp only [i64_w, i32_w]; rw [ba]) | skip)
  have H' := am H
  clear H
  have fl_ := trivial
  iterate 3 (try ((first | clear fl_ | go_step3); go_wp2))
  go_meet
  case rel => exact ⟨_, (decide (a1 > 20000)), prs, H', ⟨by first | omega | exact Nat.le_refl _⟩, ⟨pbk aa.1⟩, ⟨pbk ac.1⟩, ⟨pbg⟩⟩
 clear bp_ dS
 try clear c4 cm cn ef ba cv cw dQ
 obtain ⟨kq, b0, rfl, HA, cU, aa, ac, HB⟩ := hcut
 obtain _ | dJ := kq
 ·exact absurd HA.1 (by simp [qAC.j0])
 have H := HA.1
 clear HA
 simp only [qAC.j0] at H
 cases b0
 rotate_left
 ·rw [if_pos rfl] at H
  simp only [Option.some.injEq, Prod.mk.injEq] at H
  obtain ⟨rfl, rfl, rfl⟩ := H
  have fl_ := trivial
  iterate 3 (try ((first | clear fl_ | go_step3); go_wp2))
  (try simp only [Exit.inBlock, Exit.then])
  (try refine noGotoRet ?_)
  refine markRet3 rfl ?m_ ?_
  case m_ => exact Marks.nil _ _
  exact ⟨_, per, knl, pbg⟩
 rw [if_neg Bool.false_ne_true] at H
 replace H := bnd H
 obtain ⟨bD, ex, H⟩ := H
 (try dsimp only at H)
 obtain ⟨dB, ca⟩ : ∃ y_ : List (S73), y_ = (([(⟨(-1), (-1), bD, false⟩ : S73)] : List (S73))) := ⟨_, rfl⟩
 replace H : (qAC.l0 dJ a1 dB 0 ao ak al) = some (r1, r2, r3) := hrp ca H
 have cy := am ca
 clear ca
 have H' := am H
 clear H
 have es := ai.1
 have eu := ap.1
 have dD := cf3 aa.1
 have fl_ := trivial
 iterate 3 (try ((first | clear fl_ | go_step3); go_wp2_with (first | ((with_reducible refine qBO (f := 64) rfl ?_); refine gC 32 Try.func64 _ (net_Initial.calls dJ ao _ _ ak _ _ al bD _ (csb aR HB) aN.1 (csb aT HB) aQ.1 ex.1) ?_; rintro e e8 ⟨eW, rfl, bx, hb⟩; refine ⟨_, rfl, ?_⟩; have bR := am (Kd.qCH (Kd.R_newM (M := fun k_ => (w.heap.size ≤ k_)) bx (qBJ pbg) (fun k_ h_ => h_)) (qBJ pbg)); replace aa := bbh aa hb; replace ac := bbh ac hb; replace HB := bst hb; (try clear hb); (try clear bx); obtain ⟨cZ, dm, dY⟩ := Kd.R_slice bR.1; subst dY) | ((with_reducible refine qBN (N := 34) rfl ?_); refine Kd.N_lit k73 _ 73 ?hg (N' := 34) ?hd (xs := ([(⟨(-1), (-1), bD, false⟩ : S73)] : List (S73))) (inner := [.int .i64 (-1), .int .i64 (-1), .slice cZ bD.length dm, .bool false]) (ok := (fun k_ => (w.heap.size ≤ k_) ∧ k_ ≠ af ∧ k_ ≠ ah)) (okp := (fun k_ => (w.heap.size ≤ k_) ∧ k_ ≠ af ∧ k_ ≠ ah)) ?hr ?hp (fun _ hk => hk) ((show ∀ k_, e8.heap.size ≤ k_ → (fun k_ => (w.heap.size ≤ k_) ∧ k_ ≠ af ∧ k_ ≠ ah) k_ from fun k_ hk => ⟨(Nat.le_trans (qBJ pbg) hk), Kd.freshB (g := af) (o := .cells #[.string ao, .slice aA ak.length aE, .slice aC al.length aG] 25 (0, 0)) (by exact pbk aa.1) k_ hk, Kd.freshB (g := ah) (o := .cells #[.int .i64 aJ, .int .i64 aK] 48 (0, 0)) (by exact pbk ac.1) k_ hk⟩) _ (Nat.le_refl _)) (Below.refl _ _) (Nat.le_refl _) (by simp) ?_; (case hd => rfl); (case hg => rfl); (case hr => first | (go_simp; done) | (go_simp; rfl)); (case hp => exact (Reps.c4 (show Kd.FK k73 _ _ (⟨(-1), (-1), bD, false⟩ : S73) [.int .i64 (-1), .int .i64 (-1), .slice cZ bD.length dm, .bool false] from (k73_mkF _ _ (⟨(-1), (-1), bD, false⟩ : S73) (Kd.qBR (Kd.R_mono (ok' := (fun k_ => (w.heap.size ≤ k_) ∧ k_ ≠ af ∧ k_ ≠ ah)) (Kd.qCI (Kd.qCI (bR.1) aa.1 (by decide)) ac.1 (by decide)) (fun k_ hk => ⟨hk.1.1.1, ⟨hk.1.2, hk.2⟩⟩))).2.1 (Kd.R_F (Kd.R_mono (ok' := (fun k_ => (w.heap.size ≤ k_) ∧ k_ ≠ af ∧ k_ ≠ ah)) (Kd.qCI (Kd.qCI (bR.1) aa.1 (by decide)) ac.1 (by decide)) (fun k_ hk => ⟨hk.1.1.1, ⟨hk.1.2, hk.2⟩⟩))))) (Reps.none _ _))); intro eX fm b9 hb hg_ hnew_; clear hg_ hnew_; (first | rw [← cy.1] at b9 | (simp only [Int.reduceToNat] at b9; rw [← cy.1] at b9)); have da := am (Kd.N_lower b9 (qBJ pbg)); replace aa := bbh aa hb; replace ac := bbh ac hb; replace HB := bst hb; clear bR; clear hb b9))))
 refine wp_loop_ghost_k (fun kq a' w' => ∃ (ds : List Deferred) (u0 u3 u4 u5 u6 u7 u8 u9 u10 u11 u12 u13 u14 u15 u16 u17 u18 u19 u20 u21 u22 u23 u24 u25 u26 u27 u28 u29 u30 u31 u32 u33 u34 u35 u36 u37 u38 u39 u40 u41 u42 u43 u44 u45 u46 u47 u48 u49 u50 u51 u52 u53 u54 u55 u56 u57 u58 u59 u60 u61 u62 u63 u64 u65 u66 u67 u68 u69 u70 u71 u72 u73 u74 u75 u76 u77 u78 u79 u80 u81 u82 u83 u84 u85 u86 u87 u88 u89 u90 u91 u92 u93 u94 u95 : Value), (fun v8 v9 => ∃ (az : List (S73)) (ab : Int), v9 = .int .i64 ab ∧ Aside0 (qAC.l0 kq a1 az ab ao ak al = some (r1, r2, r3)) ∧ Aside0 (kq ≤ dJ) ∧ Aside0 (Kd.N k73 73 w' w.heap.size (fun k_ => (w.heap.size ≤ k_) ∧ k_ ≠ af ∧ k_ ≠ ah) v8 az) ∧ Aside0 (w'.heap[af]? = some (.cells #[.string ao, (.slice aA ak.length aE), (.slice aC al.length aG)] 25 (0, 0))) ∧ Aside0 (w'.heap[ah]? = some (.cells #[.int .i64 aJ, .int .i64 aK] 48 (0, 0))) ∧ Aside0 (Below w.heap.size w w') ∧ Aside0 (Marks w' w.heap.size ds)) u8 u9 ∧ a' = { tmps := #[u0, .int .i64 a1, .pointer (some ⟨af, 0, none⟩), u3, u4, u5, u6, u7, u8, u9, u10, u11, u12, u13, u14, u15, u16, u17, u18, u19, u20, u21, u22, u23, u24, u25, u26, u27, u28, u29, u30, u31, u32, u33, u34, u35, u36, u37, u38, u39, u40, u41, u42, u43, u44, u45, u46, u47, u48, u49, u50, u51, u52, u53, u54, u55, u56, u57, u58, u59, u60, u61, u62, u63, u64, u65, u66, u67, u68, u69, u70, u71, u72, u73, u74, u75, u76, u77, u78, u79, u80, u81, u82, u83, u84, u85, u86, u87, u88, u89, u90, u91, u92, u93, u94, u95], defers := ds }) dJ ?_ ?_
 ·(repeat apply Exists.intro)
  refine ⟨?_, rfl⟩
  exact ⟨(dB), (0), prs, H', ⟨Nat.le_refl _⟩, ⟨pkn da.1⟩, ⟨pbk aa.1⟩, ⟨pbk ac.1⟩, ⟨pbg⟩, ⟨Marks.nil _ _⟩⟩
 intro gk _ wr hinv
 obtain ⟨ds, u0, u3, u4, u5, u6, hinv⟩ := hinv
 obtain ⟨u7, u8, u9, u10, u11, u12, hinv⟩ := hinv
 obtain ⟨u13, u14, u15, u16, u17, u18, hinv⟩ := hinv
 obtain ⟨u19, u20, u21, u22, u23, u24, hinv⟩ := hinv
 obtain ⟨u25, u26, u27, u28, u29, u30, hinv⟩ := hinv
 obtain ⟨u31, u32, u33, u34, u35, u36, hinv⟩ := hinv
 obtain ⟨u37, u38, u39, u40, u41, u42, hinv⟩ := hinv
 obtain ⟨u43, u44, u45, u46, u47, u48, hinv⟩ := hinv
 obtain ⟨u49, u50, u51, u52, u53, u54, hinv⟩ := hinv
 obtain ⟨u55, u56, u57, u58, u59, u60, hinv⟩ := hinv
 obtain ⟨u61, u62, u63, u64, u65, u66, hinv⟩ := hinv
 obtain ⟨u67, u68, u69, u70, u71, u72, hinv⟩ := hinv
 obtain ⟨u73, u74, u75, u76, u77, u78, hinv⟩ := hinv
 obtain ⟨u79, u80, u81, u82, u83, u84, hinv⟩ := hinv
 obtain ⟨u85, u86, u87, u88, u89, u90, hinv⟩ := hinv
 obtain ⟨u91, u92, u93, u94, u95, hinv⟩ := hinv
 obtain ⟨hrel, ha⟩ := hinv
 subst ha
 (try dsimp only at hrel)
 (try dsimp only)
 intro _ _ _ _
 clear H'
 try clear c4 cm cn c6 ef ba eH cv cw dD dQ
 obtain ⟨az, ab, rfl, HA, cV, ag, aa, ac, HB, MD⟩ := hrel
 obtain _ | k2 := gk
 ·exact absurd HA.1 (by simp [qAC.l0])
 have H := HA.1
 clear HA
 simp only [qAC.l0] at H
 replace H := ifl H
 rcases H with ⟨cB, H⟩ | ⟨cB, H⟩
 rotate_left
 ·simp only [Option.some.injEq, Prod.mk.injEq] at H
  obtain ⟨rfl, rfl, rfl⟩ := H
  obtain ⟨eE, eM, d2⟩ := Kd.N_slice ag.1
  subst d2
  have fl_ := trivial
  iterate 3 (try ((first | clear fl_ | go_step3); go_wp2))
  (try simp only [Exit.inBlock, Exit.then])
  (try refine noGotoRet ?_)
  refine markRet3 rfl ?m_ ?_
  case m_ => exact pmk MD.1
  exact ⟨_, per, by (with_reducible repeat (first | apply Kd.N_alloc | apply Kd.N_drewN | apply Kd.N_drew)); exact Kd.N_mono ag.1 (fun _ hk => hk.1), pbg⟩
 replace H := ifd H
 obtain ⟨dh, H⟩ := H
 obtain ⟨dg, b6⟩ : ∃ b_ : Bool, b_ = ((rd_T73 az ab).f3) := ⟨_, rfl⟩
 replace H : (if dg = true then (qAC.l0 k2 a1 az (wrap64 (ab + 1)) ao ak al) else ((qAE.f k2 ao ak al ((rd_T73 az ab).f2)).bind fun ar => (qAC.l1 k2 a1 az ab ar (ar.length : Int) 0 ao ak al))) = some (r1, r2, r3) := by rw [← b6] at H; exact H
 have bS := am b6
 clear b6
 by_cases di : dg = true
 ·subst di
  rw [if_pos rfl] at H
  have H' := am H
  clear H
  obtain ⟨eB, eK, dZ⟩ := Kd.N_slice ag.1
  subst dZ
  have bn : 0 ≤ (ab : Int) := dq
  have bo : ab < (az.length : Int) := dq
  obtain ⟨a5, cG, cK, cL, bY, bZ, bd, bf, a7, a6⟩ := at_T73 (Kd.qBS ag.1).2.2 ab bn bo
  (try rw [← bS.1] at bf)
  cases cL
  obtain ⟨dl, bK, bJ, bl⟩ := Kd.N_get ag.1 z73 ab bn (by first | exact bo | exact dq | (have e_ := (Kd.qBS ag.1).1; omega))
  obtain ⟨cr, cu, rfl, aM, aI⟩ := k73_openF bJ
  have ax := bl 2 _ rfl
  rw [add_field _ _ 2 (by omega)] at ax
  replace ax := Option.some.inj (ax.symm.trans bd)
  injection ax with hva_ hvn_ hvc_
  rw [hva_] at aI
  rw [hvc_] at aM
  have aU := am (show Kd.V (Kd.int .i64) 3 _ w.heap.size _ _ ((rd_T73 az ab).f2) from Kd.V_mk aM aI)
  clear hva_ hvn_ hvc_ aI aM bl bK
  have aV := am a6
  have cj := am a7
  clear a6 a7
  replace bn := eq_true bn
  replace bo := eq_true bo
  have fl_ := trivial
  iterate 3 (try ((first | clear fl_ | go_step3); go_wp2))
  go_roundg k2
  case measure => have := cU.1; have := cV.1; omega
  case rel => exact ⟨(az), (wrap64 (ab + 1)), prs, H', ⟨by have := cU.1; have := cV.1; omega⟩, ⟨pkn ag.1⟩, ⟨pbk aa.1⟩, ⟨pbk ac.1⟩, ⟨pbg⟩, ⟨pmk MD.1⟩⟩
 replace di := Bool.eq_false_iff.mpr di
 subst di
 rw [if_neg Bool.false_ne_true] at H
 replace H := bnd H
 obtain ⟨ar, ey, H⟩ := H
 (try dsimp only at H)
 have H' := am H
 clear H
 obtain ⟨eC, eL, d0⟩ := Kd.N_slice ag.1
 subst d0
 have bn : 0 ≤ (ab : Int) := dq
 have bo : ab < (az.length : Int) := dq
 obtain ⟨a5, cG, cK, cL, bY, bZ, bd, bf, a7, a6⟩ := at_T73 (Kd.qBS ag.1).2.2 ab bn bo
 (try rw [← bS.1] at bf)
 cases cL
 obtain ⟨dl, bK, bJ, bl⟩ := Kd.N_get ag.1 z73 ab bn (by first | exact bo | exact dq | (have e_ := (Kd.qBS ag.1).1; omega))
 obtain ⟨cr, cu, rfl, aM, aI⟩ := k73_openF bJ
 have ax := bl 2 _ rfl
 rw [add_field _ _ 2 (by omega)] at ax
 replace ax := Option.some.inj (ax.symm.trans bd)
 injection ax with hva_ hvn_ hvc_
 rw [hva_] at aI
 rw [hvc_] at aM
 have aU := am (show Kd.V (Kd.int .i64) 3 _ w.heap.size _ _ ((rd_T73 az ab).f2) from Kd.V_mk aM aI)
 clear hva_ hvn_ hvc_ aI aM bl bK
 have aV := am a6
 have cj := am a7
 clear a6 a7
 replace bn := eq_true bn
 replace bo := eq_true bo
 try go_wp2
 iterate 2 (try (go_step3; go_wp2))
 replace ag := am (Kd.N_drew ag.1)
 replace aU := am (Kd.V_drew aU.1)
 replace aa := am (qBM aa.1)
 replace MD := am (Marks.drew MD.1)
 replace ac := am (qBM ac.1)
 replace aV := am (Kd.C_drew aV.1)
 replace HB := am (qCB HB.1)
 have cd : 0 ≤ (ab : Int) := dq
 have ce : ab < (az.length : Int) := dq
 obtain ⟨df, b3, b5, dV, bz, bA, bg, bh, bW, bU⟩ := at_T73 (Kd.qBS ag.1).2.2 ab cd ce
 (try rw [← bS.1] at bh)
 obtain rfl : a5 = df := (by injection dV)
 obtain ⟨ep, cQ, cM, b7⟩ := Kd.N_get ag.1 z73 ab cd (by first | exact ce | exact dq | (have e_ := (Kd.qBS ag.1).1; omega))
 obtain ⟨dL, dN, rfl, bE, bv⟩ := k73_openF cM
 have bb := b7 2 _ rfl
 rw [add_field _ _ 2 (by omega)] at bb
 replace bb := Option.some.inj (bb.symm.trans bg)
 injection bb with hva_ hvn_ hvc_
 rw [hva_] at bv
 rw [hvc_] at bE
 have br := am (show Kd.V (Kd.int .i64) 3 _ w.heap.size _ _ ((rd_T73 az ab).f2) from Kd.V_mk bE bv)
 clear hva_ hvn_ hvc_ bv bE b7 cQ
 have a4 := am bU
 have ck := am bW
 clear bU bW
 replace cd := eq_true cd
 replace ce := eq_true ce
 refine start_ (n := 9) (S := fun w' => w'.cell? ⟨af, 0, none⟩ = some (.string ao) ∧ w'.cell? ⟨af, 1, none⟩ = some (.slice aA ak.length aE) ∧ w'.cell? ⟨af, 2, none⟩ = some (.slice aC al.length aG) ∧ w'.cell? (a5.add ((ab).toNat * 4)) = some (.int .i64 ((rd_T73 az ab).f0)) ∧ w'.cell? ⟨(a5.add ((ab).toNat * 4)).block, (a5.add ((ab).toNat * 4)).off + 1, none⟩ = some (.int .i64 ((rd_T73 az ab).f1)) ∧ w'.cell? ⟨(a5.add ((ab).toNat * 4)).block, (a5.add ((ab).toNat * 4)).off + 2, none⟩ = some (.slice b3 ((rd_T73 az ab).f2).length b5) ∧ w'.cell? ⟨(a5.add ((ab).toNat * 4)).block, (a5.add ((ab).toNat * 4)).off + 3, none⟩ = some (.bool (false))) (ds := []) #[false, false, false, false, false, false, false, false, false] (by kernel_rfl) rfl rfl ⟨(qBI aa.1 0).trans rfl, (qBI aa.1 1).trans rfl, (qBI aa.1 2).trans rfl, bz, bA, bg, bh⟩ (fun hHeld => ?_); refine qCL qAC.tab13 qAC.bits13 (fun HT_ HW_ => ?_)
 generalize wr.drew = fo at ag aU aa ac aV HB br a4 bz bA bg bh MD hHeld ⊢
 refine pu HT_.1 1 47 ?_
 refine pu HT_.1 2 48 ?_
 refine pu HT_.1 3 49 ?_
 refine pu HT_.1 4 50 ?_
 refine pu HT_.1 8 54 ?_
 refine tk HT_.1 HW_.1 hHeld 0 46 ?_
 refine tk HT_.1 HW_.1 hHeld 5 51 ?_
 refine on HT_.1 6 (some 52) rfl fun K hK => ?_
 refine goes_ Try.func46 (by kernel_rfl) rfl #[.agg #[.string ao, .slice aA ak.length aE, .slice aC al.length aG], .slice b3 ((rd_T73 az ab).f2).length b5] (by rfl) rfl rfl pgz ?_
 with_reducible refine (qAE.calls k2 ao _ _ ak _ _ al _ _ ((rd_T73 az ab).f2) ar _ ?side1 ?side2 ?side3 ?side4 ?side5 ?side6 ey.1).mono ?_
 (case side1 => exact csb aR HB)
 (case side2 => exact aN.1)
 (case side3 => exact csb aT HB)
 (case side4 => exact aQ.1)
 (case side5 => exact csd a4.1)
 (case side6 => exact ck.1)
 rintro e fp ⟨eY, rfl, bx, hb⟩
 have HS3_ := (hb.cell (World.block_lt_of_cell? _ _ (hHeld.2.2.2.1))).trans (hHeld.2.2.2.1)
 have HS4_ := (hb.cell (World.block_lt_of_cell? _ _ (hHeld.2.2.2.2.1))).trans (hHeld.2.2.2.2.1)
 have HS5_ := (hb.cell (World.block_lt_of_cell? _ _ (hHeld.2.2.2.2.2.1))).trans (hHeld.2.2.2.2.2.1)
 have HS6_ := (hb.cell (World.block_lt_of_cell? _ _ (hHeld.2.2.2.2.2.2))).trans (hHeld.2.2.2.2.2.2)
 refine ⟨_, rfl, ?_⟩
 have cx := am (Kd.qCH (Kd.R_newM (M := fun k_ => (w.heap.size ≤ k_)) bx (qBJ pbg) (fun k_ h_ => h_)) (qBJ pbg))
 replace ag := am (Kd.qBX (pkn ag.1) (Kd.R_base bx) hb)
 replace aU := am (Kd.qBY (pkv aU.1) (Kd.R_base bx) hb)
 replace br := am (Kd.qBY (pkv br.1) (Kd.R_base bx) hb)
 replace aa := bbh aa hb
 replace MD := mbw MD hb
 replace ac := bbh ac hb
 replace aV := cbb aV hb
 replace a4 := cbb a4 hb
 replace HB := bst hb
 (try clear hb)
 (try clear cX)
 (try clear hk)
 (try clear hi)
 (try clear bx)
 obtain ⟨cH, bH, dn⟩ := Kd.R_slice cx.1
 (first | subst dn | (injection dn with f1_ f2_ f3_; have f4_ := f1_.symm; have f5_ := f3_.symm; clear f1_ f2_ f3_; subst f4_; subst f5_))
 refine hK.out _ _ ⟨(qBI aa.1 0).trans rfl, (qBI aa.1 1).trans rfl, (qBI aa.1 2).trans rfl, HS3_, HS4_, HS5_, HS6_⟩ (fun hHeld => ?_)
 clear hK K
 refine nm_ 52 ?_
 refine pu HT_.1 7 53 ?_
 refine done_ (done_of HT_.1 (by kernel_rfl)) ?_
 try go_wp2
 iterate 2 (try (go_step3; go_wp2))
 refine wp_loop_ghost_k (fun kq a' w' => ∃ (ds : List Deferred) (u0 u3 u4 u5 u6 u7 u8 u10 u11 u12 u13 u14 u15 u16 u17 u18 u19 u20 u21 u22 u23 u24 u25 u26 u27 u28 u29 u30 u31 u32 u33 u34 u35 u36 u37 u38 u39 u40 u41 u42 u43 u44 u45 u46 u47 u48 u49 u50 u51 u54 u55 u56 u57 u58 u59 u60 u61 u62 u63 u64 u65 u66 u67 u68 u69 u70 u71 u72 u73 u74 u75 u76 u77 u78 u79 u80 u81 u82 u83 u84 u85 u86 u87 u88 u89 u90 u91 u92 u93 u94 u95 : Value), (fun v8 e4 => ∃ (aj : List (S73)) (ay : Int), e4 = .int .i64 ay ∧ Aside0 (qAC.l1 kq a1 aj ab ar (ar.length : Int) ay ao ak al = some (r1, r2, r3)) ∧ Aside0 (kq ≤ k2) ∧ Aside0 (Kd.N k73 73 w' w.heap.size (fun k_ => (w.heap.size ≤ k_) ∧ some k_ ≠ ((.slice cH ar.length bH) : Value).ownBlock ∧ k_ ≠ af ∧ k_ ≠ ah) v8 aj) ∧ Aside0 (Kd.R (Kd.int .i64) 3 w' w.heap.size (fun k_ => (w.heap.size ≤ k_)) (.slice cH ar.length bH) ar) ∧ Aside0 (w'.heap[af]? = some (.cells #[.string ao, (.slice aA ak.length aE), (.slice aC al.length aG)] 25 (0, 0))) ∧ Aside0 (w'.heap[ah]? = some (.cells #[.int .i64 aJ, .int .i64 aK] 48 (0, 0))) ∧ Aside0 (Below w.heap.size w w') ∧ Aside0 (Marks w' w.heap.size ds)) u8 u54 ∧ a' = { tmps := #[u0, .int .i64 a1, .pointer (some ⟨af, 0, none⟩), u3, u4, u5, u6, u7, u8, .int .i64 ab, u10, u11, u12, u13, u14, u15, u16, u17, u18, u19, u20, u21, u22, u23, u24, u25, u26, u27, u28, u29, u30, u31, u32, u33, u34, u35, u36, u37, u38, u39, u40, u41, u42, u43, u44, u45, u46, u47, u48, u49, u50, u51, .slice cH ar.length bH, .int .i64 (ar.length : Int), u54, u55, u56, u57, u58, u59, u60, u61, u62, u63, u64, u65, u66, u67, u68, u69, u70, u71, u72, u73, u74, u75, u76, u77, u78, u79, u80, u81, u82, u83, u84, u85, u86, u87, u88, u89, u90, u91, u92, u93, u94, u95], defers := ds }) k2 ?_ ?_
 ·(repeat apply Exists.intro)
  refine ⟨?_, rfl⟩
  exact ⟨(az), (0), prs, H', ⟨Nat.le_refl _⟩, ⟨nmo ag.1 (fun _ hk => ⟨hk.1.1, ⟨hk.2, ⟨hk.1.2.1, hk.1.2.2⟩⟩⟩)⟩, ⟨rmo cx.1 (fun _ hk => hk.1)⟩, ⟨pbk aa.1⟩, ⟨pbk ac.1⟩, ⟨pbg⟩, ⟨pmk MD.1⟩⟩
 clear MD
 intro gk _ wr hinv
 obtain ⟨ds, u0, u3, u4, u5, u6, hinv⟩ := hinv
 obtain ⟨u7, u8, u10, u11, u12, u13, hinv⟩ := hinv
 obtain ⟨u14, u15, u16, u17, u18, u19, hinv⟩ := hinv
 obtain ⟨u20, u21, u22, u23, u24, u25, hinv⟩ := hinv
 obtain ⟨u26, u27, u28, u29, u30, u31, hinv⟩ := hinv
 obtain ⟨u32, u33, u34, u35, u36, u37, hinv⟩ := hinv
 obtain ⟨u38, u39, u40, u41, u42, u43, hinv⟩ := hinv
 obtain ⟨u44, u45, u46, u47, u48, u49, hinv⟩ := hinv
 obtain ⟨u50, u51, u54, u55, u56, u57, hinv⟩ := hinv
 obtain ⟨u58, u59, u60, u61, u62, u63, hinv⟩ := hinv
 obtain ⟨u64, u65, u66, u67, u68, u69, hinv⟩ := hinv
 obtain ⟨u70, u71, u72, u73, u74, u75, hinv⟩ := hinv
 obtain ⟨u76, u77, u78, u79, u80, u81, hinv⟩ := hinv
 obtain ⟨u82, u83, u84, u85, u86, u87, hinv⟩ := hinv
 obtain ⟨u88, u89, u90, u91, u92, u93, hinv⟩ := hinv
 obtain ⟨u94, u95, hinv⟩ := hinv
 obtain ⟨hrel, ha⟩ := hinv
 subst ha
 (try dsimp only at hrel)
 (try dsimp only)
 intro _ _ _ _
 clear H'
 try clear c4 cm cn c6 ef ba eH fk cB dU dh di cv cw dD dQ bY bZ bd bf bz bA bg bh bn cd bo ce
 obtain ⟨aj, ay, rfl, HA, dE, ag, aq, aa, ac, HB, MD⟩ := hrel
 obtain _ | k3 := gk
 ·exact absurd HA.1 (by simp [qAC.l1])
 have H := HA.1
 clear HA
 simp only [qAC.l1] at H
 replace H := ifl H
 rcases H with ⟨dj, H⟩ | ⟨dj, H⟩
 rotate_left
 ·have H' := am H
  clear H
  have fl_ := trivial
  iterate 3 (try ((first | clear fl_ | go_step3); go_wp2))
  go_roundg k3
  case measure => have := cU.1; have := cV.1; have := dE.1; omega
  case rel => exact ⟨(aj), (wrap64 (ab + 1)), prs, H', ⟨by have := cU.1; have := cV.1; have := dE.1; omega⟩, ⟨nmo ag.1 (fun _ hk => ⟨hk.1, ⟨hk.2.2.1, hk.2.2.2⟩⟩)⟩, ⟨pbk aa.1⟩, ⟨pbk ac.1⟩, ⟨pbg⟩, ⟨pmk MD.1⟩⟩
 replace H := ifd H
 obtain ⟨eh, H⟩ := H
 replace H := ifd H
 obtain ⟨ej, H⟩ := H
 replace H := ifd H
 obtain ⟨el, H⟩ := H
 replace H := ifd H
 obtain ⟨en, H⟩ := H
 replace H := bnd H
 obtain ⟨⟨a8, cT⟩, ed, H⟩ := H
 (try dsimp only at H)
 have H' := am H
 clear H
 obtain ⟨eU, eV, bG, dW, dI⟩ := dint (Kd.qBR aq.1).2.2 ay
 cases dW
 try go_wp2
 iterate 2 (try (go_step3; go_wp2))
 replace ag := am (Kd.N_drew ag.1)
 replace aq := am (Kd.R_drew aq.1)
 replace aa := am (qBM aa.1)
 replace MD := am (Marks.drew MD.1)
 replace ac := am (qBM ac.1)
 replace HB := am (qCB HB.1)
 obtain ⟨eD, bI, dp⟩ := Kd.N_slice ag.1
 (first | subst dp | (injection dp with f1_ f2_ f3_; have f4_ := f1_.symm; have f5_ := f3_.symm; clear f1_ f2_ f3_; subst f4_; subst f5_))
 have cp : 0 ≤ (ab : Int) := dq
 have cq : ab < (aj.length : Int) := dq
 obtain ⟨ae, aD, aH, dX, bB, bC, bj, bk, bX, bV⟩ := at_T73 (Kd.qBS ag.1).2.2 ab cp cq
 (try rw [← bS.1] at bk)
 cases dX
 obtain ⟨eq, cR, cN, b8⟩ := Kd.N_get ag.1 z73 ab cp (by first | exact cq | exact dq | (have e_ := (Kd.qBS ag.1).1; omega))
 obtain ⟨dM, dO, rfl, bF, bw⟩ := k73_openF cN
 have bc := b8 2 _ rfl
 rw [add_field _ _ 2 (by omega)] at bc
 replace bc := Option.some.inj (bc.symm.trans bj)
 injection bc with hva_ hvn_ hvc_
 rw [hva_] at bw
 rw [hvc_] at bF
 have bQ := am (show Kd.V (Kd.int .i64) 3 _ w.heap.size _ _ ((rd_T73 aj ab).f2) from Kd.V_mk bF bw)
 clear hva_ hvn_ hvc_ bw bF b8 cR
 have aW := am bV
 have bP := am bX
 clear bV bX
 replace cp := eq_true cp
 replace cq := eq_true cq
 refine start_ (n := 14) (S := fun w' => w'.cell? ⟨af, 0, none⟩ = some (.string ao) ∧ w'.cell? ⟨af, 1, none⟩ = some (.slice aA ak.length aE) ∧ w'.cell? ⟨af, 2, none⟩ = some (.slice aC al.length aG) ∧ w'.cell? (ae.add ((ab).toNat * 4)) = some (.int .i64 ((rd_T73 aj ab).f0)) ∧ w'.cell? ⟨(ae.add ((ab).toNat * 4)).block, (ae.add ((ab).toNat * 4)).off + 1, none⟩ = some (.int .i64 ((rd_T73 aj ab).f1)) ∧ w'.cell? ⟨(ae.add ((ab).toNat * 4)).block, (ae.add ((ab).toNat * 4)).off + 2, none⟩ = some (.slice aD ((rd_T73 aj ab).f2).length aH) ∧ w'.cell? ⟨(ae.add ((ab).toNat * 4)).block, (ae.add ((ab).toNat * 4)).off + 3, none⟩ = some (.bool ((rd_T73 aj ab).f3))) (ds := []) #[false, false, false, false, false, false, false, false, false, false, false, false, false, false] (by kernel_rfl) rfl rfl ⟨(qBI aa.1 0).trans rfl, (qBI aa.1 1).trans rfl, (qBI aa.1 2).trans rfl, bB, bC, bj, bk⟩ (fun hHeld => ?_); refine qCL qAC.tab16 qAC.bits16 (fun HT_ HW_ => ?_)
 generalize wr.drew = b1 at ag aq aa ac HB bQ aW bB bC bj bk MD hHeld ⊢
 refine pu HT_.1 1 60 ?_
 refine pu HT_.1 2 61 ?_
 refine pu HT_.1 3 62 ?_
 refine pu HT_.1 4 63 ?_
 refine pu HT_.1 6 65 ?_
 refine tk HT_.1 HW_.1 hHeld 0 59 ?_
 refine tk HT_.1 HW_.1 hHeld 5 64 ?_
 apply jn_ (α := Nat) (β := Value) (fuel' := 2) (l' := #[true, true, true, true, true, true, true, true, true, true, true, true, false, false]) (F := fun gm bM w' => Below b1.heap.size b1 w' ∧ Kd.R (Kd.int .i64) 3 w' b1.heap.size (fun _ => True) bM a8 ∧ w'.heap[gm]? = some (.cells #[.slice none 0 0] 39 (0, 0)) ∧ b1.heap.size ≤ gm ∧ (∀ k, bM.ownBlock = some k → gm ≠ k))
 ·intro hCont
  refine both HT_.1 7 11 (some 66) (some 12) rfl rfl (fun K hK => ?_) (fun K hK => ?_)
  ·refine goes_ Try.func65 (by kernel_rfl) rfl #[.agg #[.string ao, .slice aA ak.length aE, .slice aC al.length aG], .slice aD ((rd_T73 aj ab).f2).length aH, .int .i64 (rd ar ay)] (by rfl) rfl rfl pgz ?_
   with_reducible refine (qAK.calls k3 ao _ _ ak _ _ al _ _ ((rd_T73 aj ab).f2) (rd ar ay) a8 cT _ (csb aR HB) aN.1 (csb aT HB) aQ.1 aW.1 bP.1 ed.1).mono ?_
   rintro e d9 ⟨bM, rfl, bx, hb⟩
   refine ⟨_, rfl, ?_⟩
   have hHeld2 : (fun w' => w'.cell? ⟨af, 0, none⟩ = some (.string ao) ∧ w'.cell? ⟨af, 1, none⟩ = some (.slice aA ak.length aE) ∧ w'.cell? ⟨af, 2, none⟩ = some (.slice aC al.length aG) ∧ w'.cell? (ae.add ((ab).toNat * 4)) = some (.int .i64 ((rd_T73 aj ab).f0)) ∧ w'.cell? ⟨(ae.add ((ab).toNat * 4)).block, (ae.add ((ab).toNat * 4)).off + 1, none⟩ = some (.int .i64 ((rd_T73 aj ab).f1)) ∧ w'.cell? ⟨(ae.add ((ab).toNat * 4)).block, (ae.add ((ab).toNat * 4)).off + 2, none⟩ = some (.slice aD ((rd_T73 aj ab).f2).length aH) ∧ w'.cell? ⟨(ae.add ((ab).toNat * 4)).block, (ae.add ((ab).toNat * 4)).off + 3, none⟩ = some (.bool ((rd_T73 aj ab).f3))) d9 := ⟨(hb.cell (World.block_lt_of_cell? _ _ (hHeld.1))).trans (hHeld.1), (hb.cell (World.block_lt_of_cell? _ _ (hHeld.2.1))).trans (hHeld.2.1), (hb.cell (World.block_lt_of_cell? _ _ (hHeld.2.2.1))).trans (hHeld.2.2.1), (hb.cell (World.block_lt_of_cell? _ _ (hHeld.2.2.2.1))).trans (hHeld.2.2.2.1), (hb.cell (World.block_lt_of_cell? _ _ (hHeld.2.2.2.2.1))).trans (hHeld.2.2.2.2.1), (hb.cell (World.block_lt_of_cell? _ _ (hHeld.2.2.2.2.2.1))).trans (hHeld.2.2.2.2.2.1), (hb.cell (World.block_lt_of_cell? _ _ (hHeld.2.2.2.2.2.2))).trans (hHeld.2.2.2.2.2.2)⟩
   have hb1 := am hb
   have ho1 := am bx
   clear hb bx
   refine hK.out _ _ hHeld2 (fun hHeld => ?_)
   clear hK K hHeld2
   refine nm_ 66 ?_
   refine pu HT_.1 8 58 ?_
   refine pu HT_.1 9 67 ?_
   refine pu HT_.1 10 68 ?_
   refine on HT_.1 11 (some 12) rfl fun K hK => ?_
   refine boxes_ (N := 12) (cs := #[.slice none 0 0]) (t := 39) (by rfl) rfl (by first | (go_simp; done) | (go_simp; rfl)) ?_
   intro gm hg cf hbox hb
   have hHeld2 : (fun w' => w'.cell? ⟨af, 0, none⟩ = some (.string ao) ∧ w'.cell? ⟨af, 1, none⟩ = some (.slice aA ak.length aE) ∧ w'.cell? ⟨af, 2, none⟩ = some (.slice aC al.length aG) ∧ w'.cell? (ae.add ((ab).toNat * 4)) = some (.int .i64 ((rd_T73 aj ab).f0)) ∧ w'.cell? ⟨(ae.add ((ab).toNat * 4)).block, (ae.add ((ab).toNat * 4)).off + 1, none⟩ = some (.int .i64 ((rd_T73 aj ab).f1)) ∧ w'.cell? ⟨(ae.add ((ab).toNat * 4)).block, (ae.add ((ab).toNat * 4)).off + 2, none⟩ = some (.slice aD ((rd_T73 aj ab).f2).length aH) ∧ w'.cell? ⟨(ae.add ((ab).toNat * 4)).block, (ae.add ((ab).toNat * 4)).off + 3, none⟩ = some (.bool ((rd_T73 aj ab).f3))) cf := ⟨(hb.cell (World.block_lt_of_cell? _ _ (hHeld.1))).trans (hHeld.1), (hb.cell (World.block_lt_of_cell? _ _ (hHeld.2.1))).trans (hHeld.2.1), (hb.cell (World.block_lt_of_cell? _ _ (hHeld.2.2.1))).trans (hHeld.2.2.1), (hb.cell (World.block_lt_of_cell? _ _ (hHeld.2.2.2.1))).trans (hHeld.2.2.2.1), (hb.cell (World.block_lt_of_cell? _ _ (hHeld.2.2.2.2.1))).trans (hHeld.2.2.2.2.1), (hb.cell (World.block_lt_of_cell? _ _ (hHeld.2.2.2.2.2.1))).trans (hHeld.2.2.2.2.2.1), (hb.cell (World.block_lt_of_cell? _ _ (hHeld.2.2.2.2.2.2))).trans (hHeld.2.2.2.2.2.2)⟩
   have cX := am hb
   have bT := am hbox
   have dH := am hg
   clear hb hbox hg
   refine hK.out _ _ hHeld2 (fun hHeld => ?_)
   clear hK K hHeld2
   refine nm_ 12 ?_
   refine hCont gm bM _ ⟨?_, ?_, bT.1, ?_, ?_⟩
   ·exact below_step hb1.1 cX.1
   ·exact Kd.R_below ho1.1 cX.1
   ·rw [dH.1]; exact hb1.1.size
   ·intro k hk
    have := Kd.R_lt ho1.1 k hk
    rw [dH.1]; omega
  ·refine boxes_ (N := 12) (cs := #[.slice none 0 0]) (t := 39) (by rfl) rfl (by first | (go_simp; done) | (go_simp; rfl)) ?_
   intro gm hg fa hbox hb
   have hHeld2 : (fun w' => w'.cell? ⟨af, 0, none⟩ = some (.string ao) ∧ w'.cell? ⟨af, 1, none⟩ = some (.slice aA ak.length aE) ∧ w'.cell? ⟨af, 2, none⟩ = some (.slice aC al.length aG) ∧ w'.cell? (ae.add ((ab).toNat * 4)) = some (.int .i64 ((rd_T73 aj ab).f0)) ∧ w'.cell? ⟨(ae.add ((ab).toNat * 4)).block, (ae.add ((ab).toNat * 4)).off + 1, none⟩ = some (.int .i64 ((rd_T73 aj ab).f1)) ∧ w'.cell? ⟨(ae.add ((ab).toNat * 4)).block, (ae.add ((ab).toNat * 4)).off + 2, none⟩ = some (.slice aD ((rd_T73 aj ab).f2).length aH) ∧ w'.cell? ⟨(ae.add ((ab).toNat * 4)).block, (ae.add ((ab).toNat * 4)).off + 3, none⟩ = some (.bool ((rd_T73 aj ab).f3))) fa := ⟨(hb.cell (World.block_lt_of_cell? _ _ (hHeld.1))).trans (hHeld.1), (hb.cell (World.block_lt_of_cell? _ _ (hHeld.2.1))).trans (hHeld.2.1), (hb.cell (World.block_lt_of_cell? _ _ (hHeld.2.2.1))).trans (hHeld.2.2.1), (hb.cell (World.block_lt_of_cell? _ _ (hHeld.2.2.2.1))).trans (hHeld.2.2.2.1), (hb.cell (World.block_lt_of_cell? _ _ (hHeld.2.2.2.2.1))).trans (hHeld.2.2.2.2.1), (hb.cell (World.block_lt_of_cell? _ _ (hHeld.2.2.2.2.2.1))).trans (hHeld.2.2.2.2.2.1), (hb.cell (World.block_lt_of_cell? _ _ (hHeld.2.2.2.2.2.2))).trans (hHeld.2.2.2.2.2.2)⟩
   have cX := am hb
   have bT := am hbox
   have dH := am hg
   replace aW := cbb aW hb
   replace HB := bst hb
   clear hb hbox hg
   refine hK.out _ _ hHeld2 (fun hHeld => ?_)
   clear hK K hHeld2
   refine nm_ 12 ?_
   refine on HT_.1 7 (some 66) rfl fun K hK => ?_
   refine goes_ Try.func65 (by kernel_rfl) rfl #[.agg #[.string ao, .slice aA ak.length aE, .slice aC al.length aG], .slice aD ((rd_T73 aj ab).f2).length aH, .int .i64 (rd ar ay)] (by rfl) rfl rfl pgz ?_
   with_reducible refine (qAK.calls k3 ao _ _ ak _ _ al _ _ ((rd_T73 aj ab).f2) (rd ar ay) a8 cT _ (csb aR HB) aN.1 (csb aT HB) aQ.1 aW.1 bP.1 ed.1).mono ?_
   rintro e d9 ⟨bM, rfl, bx, hb⟩
   refine ⟨_, rfl, ?_⟩
   have hHeld2 : (fun w' => w'.cell? ⟨af, 0, none⟩ = some (.string ao) ∧ w'.cell? ⟨af, 1, none⟩ = some (.slice aA ak.length aE) ∧ w'.cell? ⟨af, 2, none⟩ = some (.slice aC al.length aG) ∧ w'.cell? (ae.add ((ab).toNat * 4)) = some (.int .i64 ((rd_T73 aj ab).f0)) ∧ w'.cell? ⟨(ae.add ((ab).toNat * 4)).block, (ae.add ((ab).toNat * 4)).off + 1, none⟩ = some (.int .i64 ((rd_T73 aj ab).f1)) ∧ w'.cell? ⟨(ae.add ((ab).toNat * 4)).block, (ae.add ((ab).toNat * 4)).off + 2, none⟩ = some (.slice aD ((rd_T73 aj ab).f2).length aH) ∧ w'.cell? ⟨(ae.add ((ab).toNat * 4)).block, (ae.add ((ab).toNat * 4)).off + 3, none⟩ = some (.bool ((rd_T73 aj ab).f3))) d9 := ⟨(hb.cell (World.block_lt_of_cell? _ _ (hHeld.1))).trans (hHeld.1), (hb.cell (World.block_lt_of_cell? _ _ (hHeld.2.1))).trans (hHeld.2.1), (hb.cell (World.block_lt_of_cell? _ _ (hHeld.2.2.1))).trans (hHeld.2.2.1), (hb.cell (World.block_lt_of_cell? _ _ (hHeld.2.2.2.1))).trans (hHeld.2.2.2.1), (hb.cell (World.block_lt_of_cell? _ _ (hHeld.2.2.2.2.1))).trans (hHeld.2.2.2.2.1), (hb.cell (World.block_lt_of_cell? _ _ (hHeld.2.2.2.2.2.1))).trans (hHeld.2.2.2.2.2.1), (hb.cell (World.block_lt_of_cell? _ _ (hHeld.2.2.2.2.2.2))).trans (hHeld.2.2.2.2.2.2)⟩
   have hb1 := am hb
   have ho1 := am bx
   clear hb bx
   refine hK.out _ _ hHeld2 (fun hHeld => ?_)
   clear hK K hHeld2
   refine nm_ 66 ?_
   refine pu HT_.1 8 58 ?_
   refine pu HT_.1 9 67 ?_
   refine pu HT_.1 10 68 ?_
   refine hCont gm bM _ ⟨?_, ?_, ?_, ?_, ?_⟩
   ·exact below_step cX.1 hb1.1
   ·exact Kd.qCH (Kd.R_mono ho1.1 (fun _ _ => trivial)) cX.1.size
   ·exact qCF bT.1 hb1.1
   ·rw [dH.1]; exact Nat.le_refl _
   ·intro k hk
    have h1 := Kd.R_base ho1.1 k hk
    have h2 := (Array.getElem?_eq_some_iff.1 bT.1).1
    omega
 clear bQ
 rintro gm bM cf ⟨hb, bx, hbox, hge, hne⟩
 obtain ⟨bq, bu, dr⟩ := Kd.R_slice bx
 (try dsimp only at hbox hge hne dr bx)
 subst dr
 have hHeld2 : (fun w' => w'.cell? ⟨af, 0, none⟩ = some (.string ao) ∧ w'.cell? ⟨af, 1, none⟩ = some (.slice aA ak.length aE) ∧ w'.cell? ⟨af, 2, none⟩ = some (.slice aC al.length aG) ∧ w'.cell? (ae.add ((ab).toNat * 4)) = some (.int .i64 ((rd_T73 aj ab).f0)) ∧ w'.cell? ⟨(ae.add ((ab).toNat * 4)).block, (ae.add ((ab).toNat * 4)).off + 1, none⟩ = some (.int .i64 ((rd_T73 aj ab).f1)) ∧ w'.cell? ⟨(ae.add ((ab).toNat * 4)).block, (ae.add ((ab).toNat * 4)).off + 2, none⟩ = some (.slice aD ((rd_T73 aj ab).f2).length aH) ∧ w'.cell? ⟨(ae.add ((ab).toNat * 4)).block, (ae.add ((ab).toNat * 4)).off + 3, none⟩ = some (.bool ((rd_T73 aj ab).f3))) cf := ⟨(hb.cell (World.block_lt_of_cell? _ _ (hHeld.1))).trans (hHeld.1), (hb.cell (World.block_lt_of_cell? _ _ (hHeld.2.1))).trans (hHeld.2.1), (hb.cell (World.block_lt_of_cell? _ _ (hHeld.2.2.1))).trans (hHeld.2.2.1), (hb.cell (World.block_lt_of_cell? _ _ (hHeld.2.2.2.1))).trans (hHeld.2.2.2.1), (hb.cell (World.block_lt_of_cell? _ _ (hHeld.2.2.2.2.1))).trans (hHeld.2.2.2.2.1), (hb.cell (World.block_lt_of_cell? _ _ (hHeld.2.2.2.2.2.1))).trans (hHeld.2.2.2.2.2.1), (hb.cell (World.block_lt_of_cell? _ _ (hHeld.2.2.2.2.2.2))).trans (hHeld.2.2.2.2.2.2)⟩
 have hbc := fun {x_ : Addr} {y_ : Value} (h_ : b1.cell? x_ = some y_) => show x_.block ≠ (⟨gm, 0, none⟩ : Addr).block from Nat.ne_of_lt (Nat.lt_of_lt_of_le (World.block_lt_of_cell? _ _ h_) hge)
 have hHeld3 : (fun w' => w'.cell? ⟨af, 0, none⟩ = some (.string ao) ∧ w'.cell? ⟨af, 1, none⟩ = some (.slice aA ak.length aE) ∧ w'.cell? ⟨af, 2, none⟩ = some (.slice aC al.length aG) ∧ w'.cell? (ae.add ((ab).toNat * 4)) = some (.int .i64 ((rd_T73 aj ab).f0)) ∧ w'.cell? ⟨(ae.add ((ab).toNat * 4)).block, (ae.add ((ab).toNat * 4)).off + 1, none⟩ = some (.int .i64 ((rd_T73 aj ab).f1)) ∧ w'.cell? ⟨(ae.add ((ab).toNat * 4)).block, (ae.add ((ab).toNat * 4)).off + 2, none⟩ = some (.slice aD ((rd_T73 aj ab).f2).length aH) ∧ w'.cell? ⟨(ae.add ((ab).toNat * 4)).block, (ae.add ((ab).toNat * 4)).off + 3, none⟩ = some (.bool ((rd_T73 aj ab).f3))) (cf.setCell ⟨gm, 0, none⟩ (.slice bq a8.length bu)) := ⟨(qCK (hbc hHeld.1) _).trans hHeld2.1, (qCK (hbc hHeld.2.1) _).trans hHeld2.2.1, (qCK (hbc hHeld.2.2.1) _).trans hHeld2.2.2.1, (qCK (hbc hHeld.2.2.2.1) _).trans hHeld2.2.2.2.1, (qCK (hbc hHeld.2.2.2.2.1) _).trans hHeld2.2.2.2.2.1, (qCK (hbc hHeld.2.2.2.2.2.1) _).trans hHeld2.2.2.2.2.2.1, (qCK (hbc hHeld.2.2.2.2.2.2) _).trans hHeld2.2.2.2.2.2.2⟩
 have H3 := am hHeld3
 have Hb := am hb
 have Ho := am bx
 have Hbox := am hbox
 have Hge := am hge
 have Hne := am hne
 clear hb bx hbox hge hne hHeld2 hHeld3 hHeld hbc
 refine on HT_.1 12 none rfl fun K hK => ?_
 have gp : cf.cell? ⟨gm, 0, none⟩ = some (.slice none 0 0) := (qBI Hbox.1 0).trans rfl
 have fy := qCJ Hbox.1 0
 refine skip_ (w1 := ?_) (by rfl) rfl ?_ ?_
 rotate_left
 ·go_simp
  rfl
 clear gp fy
 refine hK.out _ _ H3.1 (fun hHeld => ?_)
 clear hK K H3
 have cP : Below b1.heap.size b1 (cf.setCell ⟨gm, 0, none⟩ (.slice bq a8.length bu)) := below_put Hb.1 _ Hge.1
 have n0_ : Aside0 (Kd.V (Kd.int .i64) 3 (cf.setCell ⟨gm, 0, none⟩ (.slice bq a8.length bu)) w.heap.size (fun k_ => (b1.heap.size ≤ k_ ∧ k_ ≠ gm) ∧ k_ < (cf.setCell ⟨gm, 0, none⟩ (.slice bq a8.length bu)).heap.size) (.slice bq a8.length bu) a8) := ⟨Kd.V_mono (Kd.V_far (p := ⟨gm, 0, none⟩) (Kd.R_V (Kd.R_bound (Kd.R_tight rfl Ho.1))) (fun k hk => by rintro rfl; exact Hne.1 _ hk.1.symm rfl) _) (fun k hk => ⟨⟨hk.2.1, fun e_ => Hne.1 k hk.1.symm e_.symm⟩, by simpa [World.setCell] using hk.2.2.1⟩)⟩
 have n1_ : Aside0 ((cf.setCell ⟨gm, 0, none⟩ (.slice bq a8.length bu)).heap[gm]? = some (.cells #[.slice bq a8.length bu] 39 (0, 0))) := ⟨blk_put Hbox.1 0 _ rfl⟩
 have dt : w.heap.size ≤ b1.heap.size := qBJ pbg
 replace ag := am (Kd.N_below (Kd.N_bound ag.1) cP)
 replace aq := am (Kd.R_below (Kd.R_bound aq.1) cP)
 have cI := am (blk_lt aa.1)
 have cJ := am (blk_lt ac.1)
 replace aa := am (qCF aa.1 cP)
 replace ac := am (qCF ac.1 cP)
 replace MD := am (Marks.below MD.1 cP)
 replace HB := am (below_step HB.1 cP)
 clear cP Hb Ho Hbox Hne aW bB bC bj bk
 generalize (cf.setCell ⟨gm, 0, none⟩ (.slice bq a8.length bu)) = fb at n0_ n1_ ag aq aa ac MD HB hHeld ⊢
 have HV := n0_
 have HG := n1_
 clear n0_ n1_ hHeld
 refine pu HT_.1 13 13 ?_
 refine done_ (done_of HT_.1 (by kernel_rfl)) ?_
 have H := H'.1
 clear H'
 cases cT
 ·rw [if_neg Bool.false_ne_true] at H
  simp only [Option.some.injEq, Prod.mk.injEq] at H
  obtain ⟨rfl, rfl, rfl⟩ := H
  try go_wp2
  iterate 2 (try (go_step3; go_wp2))
  (try simp only [Exit.inBlock, Exit.then])
  (try refine noGotoRet ?_)
  refine markRet3 rfl ?m_ ?_
  case m_ => exact pmk MD.1
  exact ⟨_, per, knl, pbg⟩
 rw [if_pos rfl] at H
 replace H := bnd H
 obtain ⟨a9, ez, H⟩ := H
 (try dsimp only at H)
 have H' := am H
 clear H
 go_wp2_with (first | ((with_reducible refine qBO (f := 66) rfl ?_); refine gC 73 Try.func66 _ (karpmiller_ancestors.calls (some ae) aj.length bI ab _) ?_; rintro e fc ⟨gt, gi, rfl, hgt, hgi, hti, hbt, hbi, hb⟩; refine ⟨_, rfl, ?_⟩; have BT := am hbt; have BI := am hbi; have GT := am hgt; have GI := am hgi; have NT := am hti; replace ag := nbw ag hb; replace aq := rbw aq hb; replace HV := vbw HV hb; replace aa := bbh aa hb; replace ac := bbh ac hb; have LG := am (blk_lt HG.1); replace HG := bbh HG hb; replace MD := mbw MD hb; replace HB := bst hb; have SZ := am hb.size; clear hgt hgi hti hbt hbi hb))
 simp only [Act.put, List.setIfInBounds_toArray, List.set_cons_zero, List.set_cons_succ]
 have cW : Aside0 (b1.heap.size ≤ gm) := Hge
 refine anc_wp (gm := gm) (gi := gi) (gt := gt) (P2 := fun k_ => (b1.heap.size ≤ k_ ∧ k_ ≠ gm) ∧ k_ < fb.heap.size) (A := some ae) (cap := bI) (base := w.heap.size) (okN := _) (nodes := aj) k3 ab a8 a9 ⟨blk_lt HG.1, blk_lt BI.1, by have := LG.1; have := GI.1; omega, NT.1, by have := LG.1; have := GT.1; omega, BT.1, fun k_ hk => ⟨hk.1.2, by have := GI.1; have := hk.2; omega, by have := SZ.1; have := hk.2; omega⟩, ag.1, fun k_ hk => ?okn⟩ rfl BI.1 (.slice bq a8.length bu) HG.1 HV.1 ez.1 ?hround ?hdone
 case okn =>
  have := hk.2; have := cW.1; have := GI.1; have := LG.1; exact ⟨by omega, by omega⟩
 case hround =>
  intro l A2 c2 x W
  apply Exists.intro
  refine ⟨?_, ?_⟩
  ·intro K hK
   simp only [List.setIfInBounds_toArray, List.set_cons_zero, List.set_cons_succ, nodeCells]
   gi_wp2
   exact hK
  ·intro W3 mA mc kk ns n1 Post hga hgm hC hc hM hmc hacc hpost
   have Hp := am hpost
   have Ha := am hacc
   have HgM := am hgm
   obtain ⟨x0, x1, x2, x3, y0, y1, y2, y3⟩ := cf4 hga
   obtain ⟨m0, n0⟩ := cf1 hgm
   clear hpost hacc hgm
   gi_wp2_with (first | (refine ⟨trivial, ?_⟩; gi_at_call 67; refine (CallsIn.inRound l (callsIn_wide.2 (qAM.calls kk A2 c2 x.f2 mA mc ns n1 _ hC hc hM hmc Ha.1))).mono ?_; rintro e W4 ⟨v4, rfl, d5, d4⟩; have eG := am d5; have eF := am d4; obtain ⟨m4, n4⟩ := cf1 (qCF HgM.1 d4); obtain ⟨A9, c9, e9⟩ := Kd.R_slice d5; subst e9; clear d5 d4))
   exact Hp.1 _ _ _ eG.1 eF.1
 intro D W1 v1 hg du hv1 hD hDs
 have bp : ∀ k_, k_ < b1.heap.size → W1.heap[k_]? = fc.heap[k_]? := fun k_ h_ => hg.block k_ (by have := cW.1; have := LG.1; have := SZ.1; omega) (by have := cW.1; omega) (by have := cW.1; have := LG.1; have := GI.1; omega)
 replace ag := am (Kd.N_step ag.1 (fun k_ hk _ => bp k_ hk.2))
 replace aq := am (Kd.R_step aq.1 (fun k_ hk _ => bp k_ hk.2.2.1))
 replace aa := am ((bp _ cI.1).trans aa.1)
 replace ac := am ((bp _ cJ.1).trans ac.1)
 replace MD := am (Marks.gk MD.1 hg HG.1 BI.1 hD hDs (qBJ pbg))
 have dR := am dt
 replace HB := am (show Below w.heap.size w W1 from ⟨hg.os.trans HB.1.os, hg.tape.trans HB.1.tape, hg.output.trans HB.1.output, Nat.le_trans HB.1.size hg.size, fun k_ hk => (bp k_ (by have := dR.1; omega)).trans (HB.1.block k_ hk)⟩)
 obtain ⟨cg, co, d1⟩ := Kd.V_slice hv1
 subst d1
 have ee := am du
 have aX : Aside0 (Kd.V (Kd.int .i64) 3 W1 w.heap.size (fun k_ => (w.heap.size ≤ k_) ∧ some k_ ≠ (.slice (some ae) aj.length bI : Value).ownBlock ∧ some k_ ≠ (.slice (some bG) ar.length bH : Value).ownBlock ∧ k_ ≠ af ∧ k_ ≠ ah) (.slice cg a9.length co) a9) := ⟨Kd.V_mono hv1 (fun k_ hk => by
  have fl : b1.heap.size ≤ k_ := by
   rcases hk with hk | hk
   ·exact hk.1.1
   ·have := cW.1; have := LG.1; have := SZ.1; omega
  refine ⟨by have := dR.1; omega, fun e_ => ?_, fun e_ => ?_, by have := cI.1; omega, by have := cJ.1; omega⟩
  ·have := (ag.1.1 k_ e_.symm).2; omega
  ·have := (aq.1.1 k_ e_.symm).2.2.1; omega)⟩
 replace ag := am (Kd.N_mono ag.1 (fun _ hk => hk.1))
 replace aq := am (Kd.R_mono (ok' := fun k_ => w.heap.size ≤ k_) aq.1 (fun _ hk => hk.1))
 have HGm := ee
 clear bp hg du hv1 hD hDs dt BT BI GT GI NT HG HV cW LG SZ cI cJ Hge dR ee
 have H := H'.1
 clear H'
 (try dsimp only)
 replace H := ifh H
 rcases H with ⟨dk, H⟩ | ⟨dk, H⟩
 ·simp only [Option.some.injEq, Prod.mk.injEq] at H
  obtain ⟨rfl, rfl, rfl⟩ := H
  have fl_ := trivial
  iterate 3 (try ((first | clear fl_ | go_step3); go_wp2))
  (try simp only [Exit.inBlock, Exit.then])
  (try refine noGotoRet ?_)
  refine markRet3 rfl ?m_ ?_
  case m_ => exact pmk MD.1
  exact ⟨_, per, by (with_reducible repeat (first | apply Kd.N_alloc | apply Kd.N_drewN | apply Kd.N_drew)); exact Kd.N_mono ag.1 (fun _ hk => hk.1), pbg⟩
 replace H := bnd H
 obtain ⟨bL, eA, H⟩ := H
 (try dsimp only at H)
 replace H := ifp H
 obtain ⟨eo, H⟩ := H
 have dc := am eo
 clear eo
 obtain ⟨dC, cb⟩ : ∃ y_ : List (S73), y_ = (aj ++ [(⟨ab, rd ar ay, a9, bL⟩ : S73)]) := ⟨_, rfl⟩
 replace H : (qAC.l1 k3 a1 dC ab ar (ar.length : Int) (wrap64 (ay + 1)) ao ak al) = some (r1, r2, r3) := hrp cb H
 have de := am cb
 clear cb
 have H' := am H
 clear H
 have fl_ := trivial
 iterate 3 (try ((first | clear fl_ | go_step3); go_wp2))
 replace ag := am (Kd.N_drew ag.1)
 replace aq := am (Kd.R_drew aq.1)
 replace aX := am (Kd.V_drew aX.1)
 replace aa := am (qBM aa.1)
 replace ac := am (qBM ac.1)
 replace HGm := am (qBM HGm.1)
 replace MD := am (Marks.drew MD.1)
 replace HB := am (qCB HB.1)
 refine start_ (n := 11) (S := fun w' => w'.cell? ⟨gm, 0, none⟩ = some (.slice cg a9.length co)) (ds := []) #[false, false, false, false, false, false, false, false, false, false, false] (by kernel_rfl) rfl rfl ((qBI HGm.1 0).trans rfl) (fun hHeld => ?_); refine qCL qAC.tab24 qAC.bits24 (fun HT_ HW_ => ?_)
 generalize W1.drew = fq at ag aq aX aa ac HGm MD HB hHeld ⊢
 refine pu HT_.1 0 84 ?_
 refine pu HT_.1 1 85 ?_
 refine pu HT_.1 2 86 ?_
 refine pu HT_.1 4 88 ?_
 refine tk HT_.1 HW_.1 hHeld 3 87 ?_
 refine tk HT_.1 HW_.1 hHeld 5 89 ?_
 refine on HT_.1 6 (some 90) rfl fun K hK => ?_
 refine goes_ Try.func68 (by kernel_rfl) rfl #[.slice (some ae) aj.length bI, .slice cg a9.length co] (by rfl) rfl rfl pgz ?_
 with_reducible refine (qAG.calls k3 _ _ aj _ _ a9 bL _ (csd ((Kd.qBS ag.1).2.2)) (Kd.qBS ag.1).2.1 (csd ((Kd.qBT aX.1).2.2)) (Kd.qBT aX.1).2.1 eA.1).mono ?_
 rintro e ft ⟨rfl, hb⟩
 refine ⟨_, rfl, ?_⟩
 replace ag := nbw ag hb
 replace aq := rbw aq hb
 replace aX := vbw aX hb
 replace aa := bbh aa hb
 replace ac := bbh ac hb
 replace HGm := bbh HGm hb
 replace MD := mbw MD hb
 replace HB := bst hb
 clear hb
 refine hK.out _ _ ((qBI HGm.1 0).trans rfl) (fun hHeld => ?_)
 clear hK K
 refine nm_ 90 ?_
 refine pu HT_.1 7 91 ?_
 refine on HT_.1 8 (some 92) rfl fun K hK => ?_
 refine value_ (w1 := ?_) (v := ?_) (by rfl) rfl ?_ ?_
 rotate_left 2
 ·go_simp
  constructor
  ·rfl
  ·rfl
 refine hK.out _ _ ((qBI (by exact pbk HGm.1) 0).trans rfl) (fun hHeld => ?_)
 clear hK K
 refine nm_ 92 ?_
 refine on HT_.1 9 (some 93) rfl fun K hK => ?_
 refine Kd.N_append_step k73 (w0 := w) w.heap.size (by rfl) (.tmp 84) (.tmp 92) 69 73 (.agg #[(.int .i64 0), (.int .i64 0), (.slice none 0 0), (.bool false)]) 48 rfl Try.underlying69 info73 rfl (by decide) (by omega) (.slice (some ae) aj.length bI) aj (⟨ab, rd ar ay, a9, bL⟩ : S73) [.int .i64 ab, .int .i64 (rd ar ay), .slice cg a9.length co, .bool bL] (fun k_ => (w.heap.size ≤ k_) ∧ some k_ ≠ (.slice (some bG) ar.length bH : Value).ownBlock ∧ k_ ≠ af ∧ k_ ≠ ah) (fun k_ => ((fun k_ => (w.heap.size ≤ k_) ∧ some k_ ≠ (.slice (some bG) ar.length bH : Value).ownBlock ∧ k_ ≠ af ∧ k_ ≠ ah)) k_ ∧ some k_ ≠ (.slice (some ae) aj.length bI : Value).ownBlock) rfl rfl ?aP (fun _ hk => hk) ?aF ?aO ?aB ?aS ?aL ?_
 (case aP => exact (k73_mkF _ _ (⟨ab, rd ar ay, a9, bL⟩ : S73) (Kd.qBT (Kd.V_mono (ok' := (fun k_ => ((fun k_ => (w.heap.size ≤ k_) ∧ some k_ ≠ (.slice (some bG) ar.length bH : Value).ownBlock ∧ k_ ≠ af ∧ k_ ≠ ah)) k_ ∧ some k_ ≠ (.slice (some ae) aj.length bI : Value).ownBlock)) (aX.1) (fun k_ hk => ⟨⟨hk.1, ⟨hk.2.2.1, ⟨hk.2.2.2.1, hk.2.2.2.2⟩⟩⟩, hk.2.1⟩))).2.1 (Kd.V_F (Kd.V_mono (ok' := (fun k_ => ((fun k_ => (w.heap.size ≤ k_) ∧ some k_ ≠ (.slice (some bG) ar.length bH : Value).ownBlock ∧ k_ ≠ af ∧ k_ ≠ ah)) k_ ∧ some k_ ≠ (.slice (some ae) aj.length bI : Value).ownBlock)) (aX.1) (fun k_ hk => ⟨⟨hk.1, ⟨hk.2.2.1, ⟨hk.2.2.2.1, hk.2.2.2.2⟩⟩⟩, hk.2.1⟩)))))
 (case aB => exact pbg)
 (case aF => exact (fun k_ hk => ⟨(Nat.le_trans (qBJ pbg) hk), Kd.fresh' (Kd.R_lt (pkr aq.1)) k_ hk, Kd.freshB (g := af) (o := .cells #[.string ao, .slice aA ak.length aE, .slice aC al.length aG] 25 (0, 0)) (by exact pbk aa.1) k_ hk, Kd.freshB (g := ah) (o := .cells #[.int .i64 aJ, .int .i64 aK] 48 (0, 0)) (by exact pbk ac.1) k_ hk⟩))
 (case aO => exact pkn ag.1)
 (case aS => exact (qBJ pbg))
 (case aL => have := dc.1; omega)
 intro eZ fu ho hb hg hat
 rw [← de.1] at ho
 have n0_ := am (Kd.R_over' (pkr aq.1) (Kd.N_typed (pkn ag.1)) (by decide) hg)
 have n1_ := (bgr aa hg (Kd.N_ne ag.1 aa.1 (by decide)))
 have n2_ := (bgr ac hg (Kd.N_ne ag.1 ac.1 (by decide)))
 have n3_ := (bgr HGm hg (Kd.N_ne ag.1 HGm.1 (by decide)))
 have n4_ := am (Marks.grown (pmk MD.1) hg (fun k_ hk => by obtain ⟨cs_, hc_⟩ := Kd.N_typed ag.1 k_ hk; exact ⟨cs_, 73, (0, 0), by exact pbk hc_⟩))
 have n6_ := am hb
 have n7_ := am ho
 clear aq aa ac aX HB ag HGm MD
 have aq := n0_
 have aa := n1_
 have ac := n2_
 have HGm := n3_
 have MD := n4_
 have HB := n6_
 have db := n7_
 clear n0_ n1_ n2_ n3_ n4_ n6_ n7_ ho hb hg hat
 refine hK.out _ _ ((qBI HGm.1 0).trans rfl) (fun hHeld => ?_)
 clear hK K
 refine nm_ 93 ?_
 refine pu HT_.1 10 8 ?_
 refine done_ (done_of HT_.1 (by kernel_rfl)) ?_
 try go_wp2
 iterate 2 (try (go_step3; go_wp2))
 go_roundg k3
 case measure => have := cU.1; have := cV.1; have := dE.1; omega
 case rel => exact ⟨(dC), (wrap64 (ay + 1)), prs, H', ⟨by have := cU.1; have := cV.1; have := dE.1; omega⟩, ⟨pkn db.1⟩, ⟨rmo aq.1 (fun _ hk => hk)⟩, ⟨pbk aa.1⟩, ⟨pbk ac.1⟩, ⟨pbg⟩, ⟨pmk MD.1⟩⟩

/-! ### qAS: function 70 -/
-- IMPORTS Derived.Test.YtaoogghpadifiaaShift
def qAS.l0 : Nat → List Int → List (List Int) → Int → Int → Option (Bool)
 | 0, _, _, _, _ => none
 | k + 1, x1, x7, x8, x9 => if x9 < x8 then (if 0 ≤ x9 then (if x9 < (x7.length : Int) then ((qAR.f k x1 (rd_L11 x7 x9)).bind fun ai => (if ai = true then (some true) else (qAS.l0 k x1 x7 x8 (wrap64 (x9 + 1))))) else (none)) else (none)) else (some false)
def qAS.f (k : Nat) (l0 : List (List Int)) (l1 : List Int) : Option (Bool) := qAS.l0 k l1 l0 (l0.length : Int) 0
theorem qAS.mono_l : ∀ k, M4 qAS.l0 k
 | 0 => fun _ _ _ _ r h => by simp [qAS.l0] at h
 | k + 1 => by
  have al := qAS.mono_l k
  ·intro y0 y1 y2 y3
   unfold qAS.l0
   repeat' first | (with_reducible first | apply al | apply qAR.mono | apply lr | apply ln | apply li | refine lb ?_ fun _ => ?_)
theorem qAS.mono : ∀ a0 a1 k, LeO (qAS.f k a0 a1) (qAS.f (k + 1) a0 a1) := by
 intro a0 a1 k
 have al := qAS.mono_l k
 unfold qAS.f
 repeat' first | (with_reducible first | apply al | apply qAR.mono | apply lr | apply ln | apply li | refine lb ?_ fun _ => ?_)
theorem qAS.calls (k : Nat) (A0 : Option Addr) (c0 : Nat) (l0 : List (List Int)) (A1 : Option Addr) (c1 : Nat) (l1 : List Int) (r : Bool) (w : World) (ax : Kd.C (Kd.slice 3 (Kd.int .i64)) w A0 l0.length l0) (hc0 : l0.length ≤ c0) (hr1 : Kd.C (Kd.int .i64) w A1 l1.length l1) (aw : l1.length ≤ c1) (h : qAS.f k l0 l1 = some r) :
  Calls Try.prog 70 #[.slice A0 l0.length c0, .func (.func 71) #[.slice A1 l1.length c1] #[]] w fun e w' => e = .returned (.bool r) ∧ Below w.heap.size w w' := by
 have au := am ax
 have aA := am hc0
 clear ax hc0
 have av := am hr1
 have aq := am aw
 clear hr1 aw
 have HB := am (Below.refl w.heap.size w)
 have H := h
 unfold qAS.f at H
 clear h
 have H' := am H
 clear H
 go_enter Try.func70, Try.ntmps70
 go_wp2
 go_loopg [9] k (fun kq v9 w' => ∃ (aa : Int), v9 = .int .i64 aa ∧ Aside0 (qAS.l0 kq l1 l0 (l0.length : Int) aa = some r) ∧ Aside0 (kq ≤ k) ∧ Aside0 (Below w.heap.size w w'))
 case atStart => exact ⟨(0), prs, H', ⟨Nat.le_refl _⟩, ⟨pbg⟩⟩
 clear H'
 try clear c1
 obtain ⟨aa, rfl, HA, ar, HB⟩ := hrel
 obtain _ | k1 := gk
 ·exact absurd HA.1 (by simp [qAS.l0])
 have H := HA.1
 clear HA
 simp only [qAS.l0] at H
 replace H := ifl H
 rcases H with ⟨ak, H⟩ | ⟨ak, H⟩
 rotate_left
 ·obtain rfl := Option.some.inj H
  go_wp2
  go_ret
  exact ⟨per, pbg⟩
 replace H := ifd H
 obtain ⟨ay, H⟩ := H
 replace H := ifd H
 obtain ⟨az, H⟩ := H
 replace H := bnd H
 obtain ⟨ai, A6, H⟩ := H
 (try dsimp only at H)
 cases ai
 rotate_left
 ·rw [if_pos rfl] at H
  obtain rfl := Option.some.inj H
  obtain ⟨ao, ap, aj, ae, af, ah, ag, ab, ac⟩ := bL11 au.1 HB.1 aa
  cases ah
  go_wp2_with (first | ((with_reducible refine qBN (N := 15) rfl ?_); refine goesV_ (some 15) rfl rfl #[.slice A1 l1.length c1] Try.func71 (by kernel_rfl) rfl #[.slice A1 l1.length c1, .slice ae (rd_L11 l0 aa).length af] rfl rfl pgz ?_; (with_reducible refine (qAR.calls k1 _ _ l1 _ _ (rd_L11 l0 aa) true _ ?side1 ?side2 ?side3 ?side4 A6.1).mono ?_); (case side1 => exact csb av HB); (case side2 => exact aq.1); (case side3 => exact csb ac HB); (case side4 => exact ab.1); rintro e w8 ⟨rfl, hb⟩; refine ⟨_, rfl, ?_⟩; replace HB := bsl hb; (try clear hb)))
  go_ret
  exact ⟨per, pbg⟩
 rw [if_neg Bool.false_ne_true] at H
 have H' := am H
 clear H
 obtain ⟨ao, ap, aj, ae, af, ah, ag, ab, ac⟩ := bL11 au.1 HB.1 aa
 cases ah
 go_wp2_with (first | ((with_reducible refine qBN (N := 15) rfl ?_); refine goesV_ (some 15) rfl rfl #[.slice A1 l1.length c1] Try.func71 (by kernel_rfl) rfl #[.slice A1 l1.length c1, .slice ae (rd_L11 l0 aa).length af] rfl rfl pgz ?_; (with_reducible refine (qAR.calls k1 _ _ l1 _ _ (rd_L11 l0 aa) false _ ?side1 ?side2 ?side3 ?side4 A6.1).mono ?_); (case side1 => exact csb av HB); (case side2 => exact aq.1); (case side3 => exact csb ac HB); (case side4 => exact ab.1); rintro e w9 ⟨rfl, hb⟩; refine ⟨_, rfl, ?_⟩; replace HB := bsl hb; (try clear hb)))
 go_roundg k1
 case measure => have := ar.1; omega
 case rel => exact ⟨(wrap64 (aa + 1)), prs, H', ⟨by have := ar.1; omega⟩, ⟨pbg⟩⟩

end Go.Proofs.Ytaoogghpadifiaa.P
