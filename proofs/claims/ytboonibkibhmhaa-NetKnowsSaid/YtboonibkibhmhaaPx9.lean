-- LAID BY OUR PROGRAM OVER THE PRINT (xprint.py): Lean checks it.
import Derived.Test.YtboonibkibhmhaaPx0
import Derived.Test.YtboonibkibhmhaaPx7
import Derived.Test.YtboonibkibhmhaaPx8
import Derived.BigRegion
import Derived.Laws.EntriesVeiled
import Derived.RegionTactic
namespace Go.Proofs.Ytboonibkibhmhaa.P
open Go.RowKit Go.Proofs.YtboonibkibhmhaaW.PrintWords Go.Proofs.YtboonibkibhmhaaW.PrintLast Go.Proofs.YtboonibkibhmhaaW.PrintMore
attribute [local go_sem] max2_int min2_int max_two min_two max_three min_three max_four min_four   -- for this text's walks alone
set_option linter.unusedVariables false
set_option linter.unusedSimpArgs false

/-! ### net_Ordinary: function 23 -/
-- IMPORTS Derived.RegionTactic,Derived.BigRegion,Derived.Laws.EntriesVeiled
def onesB (l : List S64) : Bool := l.all fun a => a.f1 == 1
def ordB (t : S53) : Bool := onesB t.f1 && onesB t.f2
def net_Ordinary.f (k : Nat) (a0_0 : ByteArray) (l0_1 : List (S50)) (l0_2 : List (S53)) : Option Bool := if (l0_2.all ordB) = true then net_valid.f k a0_0 l0_1 l0_2 else some false
theorem net_Ordinary.mono : ∀ a0 a1 a2 k, LeO (net_Ordinary.f k a0 a1 a2) (net_Ordinary.f (k + 1) a0 a1 a2) := by
  intro a0 a1 a2 k
  unfold net_Ordinary.f
  exact LeO.ite (net_valid.mono _ _ _ _) (LeO.refl _)
theorem all_at {α : Type} (q : α → Bool) (z : α) (l : List α) (i : Int) (h0 : 0 ≤ i) (h1 : i < (l.length : Int)) : (l.drop i.toNat).all q = (q (l.getD i.toNat z) && (l.drop (i + 1).toNat).all q) := by
  rw [show (i + 1).toNat = i.toNat + 1 by omega, List.drop_eq_getElem_cons (show i.toNat < l.length by omega), List.all_cons, List.getD_eq_getElem?_getD, List.getElem?_eq_getElem (by omega)]
  rfl
theorem arc_facts {W : World} {B : Nat} {x y : Value} (h : W.heap[B]? = some (.cells #[x, y] 64 (0, 0))) : W.cell? ⟨B, 0, none⟩ = some x ∧ W.cell? ⟨B, 1, none⟩ = some y := ⟨(blk_cell h 0).trans rfl, (blk_cell h 1).trans rfl⟩
theorem two_facts {W : World} {B : Nat} {x y : Value} (h : W.heap[B]? = some (.cells #[x, y] 51 (0, 0))) : W.cell? ⟨B, 0, none⟩ = some x ∧ W.cell? ⟨B, 1, none⟩ = some y := ⟨(blk_cell h 0).trans rfl, (blk_cell h 1).trans rfl⟩
set_option maxHeartbeats 4000000 in
set_option maxRecDepth 100000 in
theorem net_Ordinary.calls (k : Nat) (a0_0 : ByteArray) (A0_1 : Option Addr) (c0_1 : Nat) (l0_1 : List (S50)) (A0_2 : Option Addr) (c0_2 : Nat) (l0_2 : List (S53)) (r : Bool) (w : World) (hr0_1 : Kd.C k50 w A0_1 l0_1.length l0_1) (hc0_1 : l0_1.length ≤ c0_1) (hr0_2 : Kd.C k53 w A0_2 l0_2.length l0_2) (hc0_2 : l0_2.length ≤ c0_2) (h : net_Ordinary.f k a0_0 l0_1 l0_2 = some r) :
    Calls Try.prog 23 #[.agg #[.string a0_0, .slice A0_1 l0_1.length c0_1, .slice A0_2 l0_2.length c0_2]] w fun e w' => e = .returned (.bool r) ∧ Below w.heap.size w w' := by
  have hu1 := Try.underlying25
  have hu2 := Try.underlying53
  have hu3 := Try.underlying64
  have HR1 := Aside0.mk hr0_1
  have HC1 := Aside0.mk hc0_1
  have HR2 := Aside0.mk hr0_2
  have HC2 := Aside0.mk hc0_2
  clear hr0_1 hc0_1 hr0_2 hc0_2
  unfold net_Ordinary.f at h
  have H := Aside0.mk h
  clear h
  have HX := Aside0.mk (alloc_new w (.cells #[.string a0_0, .slice A0_1 l0_1.length c0_1, .slice A0_2 l0_2.length c0_2] 25))
  have HB := Aside0.mk (show Below w.heap.size w (w.alloc (.cells #[.string a0_0, .slice A0_1 l0_1.length c0_1, .slice A0_2 l0_2.length c0_2] 25)) from below_alloc (Below.refl _ _) _)
  obtain ⟨cx0, cx1, cx2⟩ := net_facts HX.out
  have HM := Aside0.mk (show (l0_2.length : Int) ≤ 9223372036854775807 by have := HR2.out.2.1; omega)
  have HD := Aside0.mk (show l0_2.all ordB = (l0_2.drop (0 : Int).toNat).all ordB from rfl)
  go_enter Try.func23, Try.ntmps23
  go_wp2
  clear cx0 cx1 cx2
  go_loopg [12] l0_2.length (fun kq v12 w' => ∃ (i : Int), v12 = .int .i64 i ∧ Aside0 (0 ≤ i) ∧ Aside0 (kq = l0_2.length - i.toNat) ∧ Aside0 (l0_2.all ordB = (l0_2.drop i.toNat).all ordB) ∧ Aside0 (w'.heap[w.heap.size]? = some (.cells #[.string a0_0, .slice A0_1 l0_1.length c0_1, .slice A0_2 l0_2.length c0_2] 25 (0, 0))) ∧ Aside0 (Below w.heap.size w w'))
  case atStart => exact ⟨0, rfl, ⟨Int.le_refl _⟩, ⟨rfl⟩, HD, HX, HB⟩
  case round =>
    clear HD HX HB
    obtain ⟨i, rfl, HP, HK, HD, HX, HB⟩ := hrel
    by_cases d1 : i < (l0_2.length : Int)
    case neg =>
      have d1b : decide (i < (l0_2.length : Int)) = false := decide_eq_false d1
      have hh := H.out
      have hd := HD.out
      rw [List.drop_eq_nil_of_le (by have := HP.out; omega)] at hd
      replace hd : l0_2.all ordB = true := hd
      rw [if_pos hd] at hh
      have HV := Aside0.mk hh
      obtain ⟨cx0, cx1, cx2⟩ := net_facts HX.out
      clear hh hd d1
      go_wp2_with (first | (go_at_call 54; refine (net_valid.calls k _ _ _ _ _ _ _ _ _ (Kd.C_below HR1.out HB.out) HC1.out (Kd.C_below HR2.out HB.out) HC2.out HV.out).mono ?_; rintro e w3 ⟨rfl, hb⟩; have HB3 := Aside0.mk (HB.out.trans (hb.mono HB.out.size)); clear hb))
      go_ret
      exact ⟨rfl, HB3.out⟩
    have d1b : decide (i < (l0_2.length : Int)) = true := decide_eq_true d1
    have d2 := HP.out
    have HS := Aside0.mk (all_at ordB z53 l0_2 i d2 d1)
    obtain ⟨ad, A1, c1, A2, c2, A3, c3, eA, y0, y1, y2, y3, y4, m1, g1, m2, g2, m3, g3⟩ := at_T53 HR2.out i d2 d1
    subst eA
    have u0 := pw_cell_below HB.out y0
    have u1 := pw_cell_below HB.out y1
    have u2 := pw_cell_below HB.out y2
    have u3 := pw_cell_below HB.out y3
    have u4 := pw_cell_below HB.out y4
    clear y0 y1 y2 y3 y4
    have G1 := Aside0.mk g1
    have G2 := Aside0.mk g2
    clear m1 m2 m3 g1 g2 g3
    have q1 : (0 ≤ i) = True := eq_true d2
    have q2 : (i < (l0_2.length : Int)) = True := eq_true d1
    obtain ⟨v0, v1, v2, v3, v4⟩ := trans_facts (alloc_new wr (.cells #[.string (rd_T53 l0_2 i).f0, .slice A1 (rd_T53 l0_2 i).f1.length c1, .slice A2 (rd_T53 l0_2 i).f2.length c2, .slice A3 (rd_T53 l0_2 i).f3.length c3, .int .i64 (rd_T53 l0_2 i).f4] 53))
    have hs1 : (wr.alloc (.cells #[.string (rd_T53 l0_2 i).f0, .slice A1 (rd_T53 l0_2 i).f1.length c1, .slice A2 (rd_T53 l0_2 i).f2.length c2, .slice A3 (rd_T53 l0_2 i).f3.length c3, .int .i64 (rd_T53 l0_2 i).f4] 53)).heap.size = wr.heap.size + 1 := by simp
    have HT := Aside0.mk (show ((wr.alloc (.cells #[.string (rd_T53 l0_2 i).f0, .slice A1 (rd_T53 l0_2 i).f1.length c1, .slice A2 (rd_T53 l0_2 i).f2.length c2, .slice A3 (rd_T53 l0_2 i).f3.length c3, .int .i64 (rd_T53 l0_2 i).f4] 53)).alloc (.cells #[.slice A1 (rd_T53 l0_2 i).f1.length c1, .slice A2 (rd_T53 l0_2 i).f2.length c2] 51)).heap[wr.heap.size + 1]? = some (.cells #[.slice A1 (rd_T53 l0_2 i).f1.length c1, .slice A2 (rd_T53 l0_2 i).f2.length c2] 51 (0, 0)) by rw [← hs1]; exact alloc_new _ _)
    have HX2 := Aside0.mk (blk_below HX.out (below_alloc (below_alloc (Below.refl _ _) (.cells #[.string (rd_T53 l0_2 i).f0, .slice A1 (rd_T53 l0_2 i).f1.length c1, .slice A2 (rd_T53 l0_2 i).f2.length c2, .slice A3 (rd_T53 l0_2 i).f3.length c3, .int .i64 (rd_T53 l0_2 i).f4] 53)) (.cells #[.slice A1 (rd_T53 l0_2 i).f1.length c1, .slice A2 (rd_T53 l0_2 i).f2.length c2] 51)))
    have HB2 := Aside0.mk (show Below w.heap.size w ((wr.alloc (.cells #[.string (rd_T53 l0_2 i).f0, .slice A1 (rd_T53 l0_2 i).f1.length c1, .slice A2 (rd_T53 l0_2 i).f2.length c2, .slice A3 (rd_T53 l0_2 i).f3.length c3, .int .i64 (rd_T53 l0_2 i).f4] 53)).alloc (.cells #[.slice A1 (rd_T53 l0_2 i).f1.length c1, .slice A2 (rd_T53 l0_2 i).f2.length c2] 51)) from below_alloc (below_alloc HB.out _) _)
    have HQ := Aside0.mk (show ordB (rd_T53 l0_2 i) = (onesB (rd_T53 l0_2 i).f1 && onesB (rd_T53 l0_2 i).f2) from rfl)
    clear hs1
    go_wp2
    clear v0 v1 v2 v3 v4 u0 u1 u2 u3 u4 HX HB
    obtain ⟨Bt, hBt⟩ : ∃ Bt, Bt = wr.heap.size + 1 := ⟨_, rfl⟩
    rw [← hBt] at HT ⊢
    clear hBt
    go_loopg [22] 2 (fun kq v22 w' => ∃ (j : Nat), v22 = .int .i64 j ∧ Aside0 (kq = 2 - j) ∧ Aside0 ((j = 0 ∧ ordB (rd_T53 l0_2 i) = (onesB (rd_T53 l0_2 i).f1 && onesB (rd_T53 l0_2 i).f2)) ∨ (j = 1 ∧ ordB (rd_T53 l0_2 i) = onesB (rd_T53 l0_2 i).f2) ∨ (j = 2 ∧ ordB (rd_T53 l0_2 i) = true)) ∧ Aside0 (w'.heap[w.heap.size]? = some (.cells #[.string a0_0, .slice A0_1 l0_1.length c0_1, .slice (some ad) l0_2.length c0_2] 25 (0, 0))) ∧ Aside0 (Below w.heap.size w w') ∧ Aside0 (w'.heap[Bt]? = some (.cells #[.slice A1 (rd_T53 l0_2 i).f1.length c1, .slice A2 (rd_T53 l0_2 i).f2.length c2] 51 (0, 0))))
    case atStart => exact ⟨0, rfl, ⟨rfl⟩, ⟨.inl ⟨rfl, HQ.out⟩⟩, HX2, HB2, HT⟩
    case round =>
      clear HQ HX2 HB2 HT
      obtain ⟨j, rfl, HKj, HQ, HX, HB, HT⟩ := hrel
      have hq0 := HQ.out
      clear HQ
      rcases hq0 with ⟨rfl, hq⟩ | ⟨rfl, hq⟩ | ⟨rfl, hq⟩
      · skip
        have HQ := Aside0.mk hq
        obtain ⟨b0, b1⟩ := two_facts HT.out
        have HD2 := Aside0.mk (show onesB (rd_T53 l0_2 i).f1 = ((rd_T53 l0_2 i).f1.drop (0 : Int).toNat).all (fun a => a.f1 == 1) from rfl)
        have HM2 := Aside0.mk (show ((rd_T53 l0_2 i).f1.length : Int) ≤ 9223372036854775807 by have := G1.out.2.1; omega)
        clear hq
        go_wp2
        clear b0 b1
        go_loopg [28] (rd_T53 l0_2 i).f1.length (fun kq v28 w' => ∃ (n : Int), v28 = .int .i64 n ∧ Aside0 (0 ≤ n) ∧ Aside0 (kq = (rd_T53 l0_2 i).f1.length - n.toNat) ∧ Aside0 (onesB (rd_T53 l0_2 i).f1 = ((rd_T53 l0_2 i).f1.drop n.toNat).all (fun a => a.f1 == 1)) ∧ Aside0 (w'.heap[w.heap.size]? = some (.cells #[.string a0_0, .slice A0_1 l0_1.length c0_1, .slice (some ad) l0_2.length c0_2] 25 (0, 0))) ∧ Aside0 (Below w.heap.size w w') ∧ Aside0 (w'.heap[Bt]? = some (.cells #[.slice A1 (rd_T53 l0_2 i).f1.length c1, .slice A2 (rd_T53 l0_2 i).f2.length c2] 51 (0, 0))))
        case atStart => exact ⟨0, rfl, ⟨Int.le_refl _⟩, ⟨rfl⟩, HD2, HX, HB, HT⟩
        case round =>
          clear HD2 HX HB HT
          obtain ⟨n, rfl, HPn, HKn, HD2, HX, HB, HT⟩ := hrel
          by_cases e1 : n < ((rd_T53 l0_2 i).f1.length : Int)
          case neg =>
            have e1b : decide (n < ((rd_T53 l0_2 i).f1.length : Int)) = false := decide_eq_false e1
            have hd := HD2.out
            rw [List.drop_eq_nil_of_le (by have := HPn.out; omega)] at hd
            have hq := HQ.out
            rw [hd] at hq
            have HQ2 := Aside0.mk hq
            clear hd hq e1
            go_wp2
            go_roundg 1
            case measure => have := HKj.out; omega
            case rel => exact ⟨1, by simp; done, ⟨by omega⟩, ⟨.inr (.inl ⟨rfl, by simpa using HQ2.out⟩)⟩, HX, HB, HT⟩
          have e1b : decide (n < ((rd_T53 l0_2 i).f1.length : Int)) = true := decide_eq_true e1
          have e2 := HPn.out
          have HS2 := Aside0.mk (all_at (fun a => a.f1 == 1) z64 (rd_T53 l0_2 i).f1 n e2 e1)
          obtain ⟨ad2, eA2, y0, y1⟩ := at_T64 G1.out n e2 e1
          subst eA2
          have u0 := pw_cell_below HB.out y0
          have u1 := pw_cell_below HB.out y1
          clear y0 y1
          have q3 : (0 ≤ n) = True := eq_true e2
          have q4 : (n < ((rd_T53 l0_2 i).f1.length : Int)) = True := eq_true e1
          obtain ⟨v0, v1⟩ := arc_facts (alloc_new wr (.cells #[.int .i64 (rd_T64 (rd_T53 l0_2 i).f1 n).f0, .int .i64 (rd_T64 (rd_T53 l0_2 i).f1 n).f1] 64))
          cases f1 : ((rd_T64 (rd_T53 l0_2 i).f1 n).f1 == 1) with
          | false =>
            have f2 : ((rd_T64 (rd_T53 l0_2 i).f1 n).f1 != 1) = true := by rw [bne, f1]; rfl
            have HF := Aside0.mk (show l0_2.all ordB = false by rw [HD.out, HS.out]; show (ordB (rd_T53 l0_2 i) && _) = false; rw [HQ.out, HD2.out, HS2.out]; show ((((rd_T64 (rd_T53 l0_2 i).f1 n).f1 == 1) && _) && _ && _) = false; rw [f1]; rfl)
            have hh := H.out
            rw [if_neg (by rw [HF.out]; exact Bool.false_ne_true)] at hh
            obtain rfl := Option.some.inj hh
            clear hh
            go_wp2
            go_ret
            exact ⟨rfl, below_alloc HB.out _⟩
          | true =>
            have f2 : ((rd_T64 (rd_T53 l0_2 i).f1 n).f1 != 1) = false := by rw [bne, f1]; rfl
            go_wp2
            go_roundg ((rd_T53 l0_2 i).f1.length - (n.toNat + 1))
            case measure => have := HKn.out; omega
            case rel => exact ⟨n + 1, (by congr 1; have := HM2.out; (first | omega | (unfold wrap64; omega) | (show wrap64 _ = _; unfold wrap64; omega))), ⟨by omega⟩, ⟨by omega⟩, ⟨by rw [HD2.out, HS2.out]; show ((((rd_T64 (rd_T53 l0_2 i).f1 n).f1 == 1)) && _) = _; rw [f1, Bool.true_and]⟩, ⟨blk_below HX.out (below_alloc (Below.refl _ _) _)⟩, ⟨below_alloc HB.out _⟩, ⟨blk_below HT.out (below_alloc (Below.refl _ _) _)⟩⟩
      · skip
        have HQ := Aside0.mk hq
        obtain ⟨b0, b1⟩ := two_facts HT.out
        have HD2 := Aside0.mk (show onesB (rd_T53 l0_2 i).f2 = ((rd_T53 l0_2 i).f2.drop (0 : Int).toNat).all (fun a => a.f1 == 1) from rfl)
        have HM2 := Aside0.mk (show ((rd_T53 l0_2 i).f2.length : Int) ≤ 9223372036854775807 by have := G2.out.2.1; omega)
        clear hq
        go_wp2
        clear b0 b1
        go_loopg [28] (rd_T53 l0_2 i).f2.length (fun kq v28 w' => ∃ (n : Int), v28 = .int .i64 n ∧ Aside0 (0 ≤ n) ∧ Aside0 (kq = (rd_T53 l0_2 i).f2.length - n.toNat) ∧ Aside0 (onesB (rd_T53 l0_2 i).f2 = ((rd_T53 l0_2 i).f2.drop n.toNat).all (fun a => a.f1 == 1)) ∧ Aside0 (w'.heap[w.heap.size]? = some (.cells #[.string a0_0, .slice A0_1 l0_1.length c0_1, .slice (some ad) l0_2.length c0_2] 25 (0, 0))) ∧ Aside0 (Below w.heap.size w w') ∧ Aside0 (w'.heap[Bt]? = some (.cells #[.slice A1 (rd_T53 l0_2 i).f1.length c1, .slice A2 (rd_T53 l0_2 i).f2.length c2] 51 (0, 0))))
        case atStart => exact ⟨0, rfl, ⟨Int.le_refl _⟩, ⟨rfl⟩, HD2, HX, HB, HT⟩
        case round =>
          clear HD2 HX HB HT
          obtain ⟨n, rfl, HPn, HKn, HD2, HX, HB, HT⟩ := hrel
          by_cases e1 : n < ((rd_T53 l0_2 i).f2.length : Int)
          case neg =>
            have e1b : decide (n < ((rd_T53 l0_2 i).f2.length : Int)) = false := decide_eq_false e1
            have hd := HD2.out
            rw [List.drop_eq_nil_of_le (by have := HPn.out; omega)] at hd
            have hq := HQ.out
            rw [hd] at hq
            have HQ2 := Aside0.mk hq
            clear hd hq e1
            go_wp2
            go_roundg 0
            case measure => have := HKj.out; omega
            case rel => exact ⟨2, by simp; done, ⟨by omega⟩, ⟨.inr (.inr ⟨rfl, by simpa using HQ2.out⟩)⟩, HX, HB, HT⟩
          have e1b : decide (n < ((rd_T53 l0_2 i).f2.length : Int)) = true := decide_eq_true e1
          have e2 := HPn.out
          have HS2 := Aside0.mk (all_at (fun a => a.f1 == 1) z64 (rd_T53 l0_2 i).f2 n e2 e1)
          obtain ⟨ad2, eA2, y0, y1⟩ := at_T64 G2.out n e2 e1
          subst eA2
          have u0 := pw_cell_below HB.out y0
          have u1 := pw_cell_below HB.out y1
          clear y0 y1
          have q3 : (0 ≤ n) = True := eq_true e2
          have q4 : (n < ((rd_T53 l0_2 i).f2.length : Int)) = True := eq_true e1
          obtain ⟨v0, v1⟩ := arc_facts (alloc_new wr (.cells #[.int .i64 (rd_T64 (rd_T53 l0_2 i).f2 n).f0, .int .i64 (rd_T64 (rd_T53 l0_2 i).f2 n).f1] 64))
          cases f1 : ((rd_T64 (rd_T53 l0_2 i).f2 n).f1 == 1) with
          | false =>
            have f2 : ((rd_T64 (rd_T53 l0_2 i).f2 n).f1 != 1) = true := by rw [bne, f1]; rfl
            have HF := Aside0.mk (show l0_2.all ordB = false by rw [HD.out, HS.out]; show (ordB (rd_T53 l0_2 i) && _) = false; rw [HQ.out, HD2.out, HS2.out]; show ((((rd_T64 (rd_T53 l0_2 i).f2 n).f1 == 1) && _) && _) = false; rw [f1]; rfl)
            have hh := H.out
            rw [if_neg (by rw [HF.out]; exact Bool.false_ne_true)] at hh
            obtain rfl := Option.some.inj hh
            clear hh
            go_wp2
            go_ret
            exact ⟨rfl, below_alloc HB.out _⟩
          | true =>
            have f2 : ((rd_T64 (rd_T53 l0_2 i).f2 n).f1 != 1) = false := by rw [bne, f1]; rfl
            go_wp2
            go_roundg ((rd_T53 l0_2 i).f2.length - (n.toNat + 1))
            case measure => have := HKn.out; omega
            case rel => exact ⟨n + 1, (by congr 1; have := HM2.out; (first | omega | (unfold wrap64; omega) | (show wrap64 _ = _; unfold wrap64; omega))), ⟨by omega⟩, ⟨by omega⟩, ⟨by rw [HD2.out, HS2.out]; show ((((rd_T64 (rd_T53 l0_2 i).f2 n).f1 == 1)) && _) = _; rw [f1, Bool.true_and]⟩, ⟨blk_below HX.out (below_alloc (Below.refl _ _) _)⟩, ⟨below_alloc HB.out _⟩, ⟨blk_below HT.out (below_alloc (Below.refl _ _) _)⟩⟩
      · skip
        have HQ := Aside0.mk hq
        clear hq
        go_wp2
        go_roundg (l0_2.length - (i.toNat + 1))
        case measure => have := HK.out; omega
        case rel => exact ⟨i + 1, (by congr 1; have := HM.out; (first | omega | (unfold wrap64; omega) | (show wrap64 _ = _; unfold wrap64; omega))), ⟨by omega⟩, ⟨by omega⟩, ⟨by rw [HD.out, HS.out]; show (ordB (rd_T53 l0_2 i) && _) = _; rw [HQ.out, Bool.true_and]⟩, HX, HB⟩

end Go.Proofs.Ytboonibkibhmhaa.P
