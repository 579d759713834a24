-- LAID BY OUR PROGRAM OVER THE PRINT (xprint.py): Lean checks it.
import Derived.Test.YtcljocmblplhcaaPx0
import Derived.Test.YtcljocmblplhcaaPx4
import Derived.BigRegion
import Derived.RegionTactic
namespace Go.Proofs.Ytcljocmblplhcaa.P
open Go.RowKit Go.Proofs.YtcljocmblplhcaaW.PrintWords Go.Proofs.YtcljocmblplhcaaW.PrintLast Go.Proofs.YtcljocmblplhcaaW.PrintMore
attribute [local go_sem] max2_int min2_int max_two min_two max_three min_three max_four min_four   -- for this text's walks alone
set_option linter.unusedVariables false
set_option linter.unusedSimpArgs false

/-! ### petrinetref07_Paths: function 33 -/
-- IMPORTS Derived.RegionTactic,Derived.BigRegion
mutual
def petrinetref07_Paths.l0 : Nat → List (List Int) → List (List Bool) → Int → Option ((List (List Bool)))
  | 0, _, _, _ => none
  | k + 1, x0, x3, x4 => if x4 < (x0.length : Int) then (petrinetref07_Paths.l1 k x0 x3 x4 0) else (some x3)
def petrinetref07_Paths.l1 : Nat → List (List Int) → List (List Bool) → Int → Int → Option ((List (List Bool)))
  | 0, _, _, _, _ => none
  | k + 1, x0, x3, x4, x5 => if x5 < (x0.length : Int) then (petrinetref07_Paths.l2 k x0 x3 x4 x5 0) else (petrinetref07_Paths.l0 k x0 x3 (wrap64 (x4 + 1)))
def petrinetref07_Paths.l2 : Nat → List (List Int) → List (List Bool) → Int → Int → Int → Option ((List (List Bool)))
  | 0, _, _, _, _, _ => none
  | k + 1, x0, x3, x4, x5, x6 => if x6 < (x0.length : Int) then (if 0 ≤ x5 then (if x5 < (x3.length : Int) then (if 0 ≤ x6 then (if x6 < ((rd_L4 x3 x5).length : Int) then (if rdOf false (rd_L4 x3 x5) x6 = true then (petrinetref07_Paths.l2 k x0 (x3.set (x5 : Int).toNat ((rd_L4 x3 x5).set (x6 : Int).toNat true)) x4 x5 (wrap64 (x6 + 1))) else (if 0 ≤ x4 then (if x4 < ((rd_L4 x3 x5).length : Int) then (if rdOf false (rd_L4 x3 x5) x4 = true then (if x4 < (x3.length : Int) then (if x6 < ((rd_L4 x3 x4).length : Int) then (petrinetref07_Paths.l2 k x0 (x3.set (x5 : Int).toNat ((rd_L4 x3 x5).set (x6 : Int).toNat (rdOf false (rd_L4 x3 x4) x6))) x4 x5 (wrap64 (x6 + 1))) else (none)) else (none)) else (petrinetref07_Paths.l2 k x0 (x3.set (x5 : Int).toNat ((rd_L4 x3 x5).set (x6 : Int).toNat false)) x4 x5 (wrap64 (x6 + 1)))) else (none)) else (none))) else (none)) else (none)) else (none)) else (none)) else (petrinetref07_Paths.l1 k x0 x3 x4 (wrap64 (x5 + 1)))
end
def petrinetref07_Paths.f (k : Nat) (l0 : List (List Int)) : Option ((List (List Bool))) := (petrinetref07_Table.f k l0).bind fun t227 => (petrinetref07_Paths.l0 k l0 t227 0)
theorem petrinetref07_Paths.mono_l : ∀ k, (∀ y0 y1 y2, LeO (petrinetref07_Paths.l0 k y0 y1 y2) (petrinetref07_Paths.l0 (k + 1) y0 y1 y2)) ∧ (∀ y0 y1 y2 y3, LeO (petrinetref07_Paths.l1 k y0 y1 y2 y3) (petrinetref07_Paths.l1 (k + 1) y0 y1 y2 y3)) ∧ (∀ y0 y1 y2 y3 y4, LeO (petrinetref07_Paths.l2 k y0 y1 y2 y3 y4) (petrinetref07_Paths.l2 (k + 1) y0 y1 y2 y3 y4))
  | 0 => ⟨fun _ _ _ r h => by simp [petrinetref07_Paths.l0] at h, fun _ _ _ _ r h => by simp [petrinetref07_Paths.l1] at h, fun _ _ _ _ _ r h => by simp [petrinetref07_Paths.l2] at h⟩
  | k + 1 => by
    obtain ⟨ih0, ih1, ih2⟩ := petrinetref07_Paths.mono_l k
    refine ⟨?_, ?_, ?_⟩
    · intro y0 y1 y2
      unfold petrinetref07_Paths.l0
      repeat' first
      | (with_reducible exact ih0 _ _ _)
      | (with_reducible exact ih1 _ _ _ _)
      | (with_reducible exact ih2 _ _ _ _ _)
      | (with_reducible exact petrinetref07_Table.mono _ _)
      | (with_reducible exact LeO.refl _)
      | (with_reducible exact LeO.none _)
      | (with_reducible refine LeO.ite ?_ ?_)
      | (with_reducible refine LeO.bind ?_ (fun _ => ?_))
      | exact ih0 _ _ _
      | exact ih1 _ _ _ _
      | exact ih2 _ _ _ _ _
      | exact petrinetref07_Table.mono _ _
      | exact LeO.none _
      | refine LeO.ite ?_ ?_
      | refine LeO.bind ?_ (fun _ => ?_)
    · intro y0 y1 y2 y3
      unfold petrinetref07_Paths.l1
      repeat' first
      | (with_reducible exact ih0 _ _ _)
      | (with_reducible exact ih1 _ _ _ _)
      | (with_reducible exact ih2 _ _ _ _ _)
      | (with_reducible exact petrinetref07_Table.mono _ _)
      | (with_reducible exact LeO.refl _)
      | (with_reducible exact LeO.none _)
      | (with_reducible refine LeO.ite ?_ ?_)
      | (with_reducible refine LeO.bind ?_ (fun _ => ?_))
      | exact ih0 _ _ _
      | exact ih1 _ _ _ _
      | exact ih2 _ _ _ _ _
      | exact petrinetref07_Table.mono _ _
      | exact LeO.none _
      | refine LeO.ite ?_ ?_
      | refine LeO.bind ?_ (fun _ => ?_)
    · intro y0 y1 y2 y3 y4
      unfold petrinetref07_Paths.l2
      repeat' first
      | (with_reducible exact ih0 _ _ _)
      | (with_reducible exact ih1 _ _ _ _)
      | (with_reducible exact ih2 _ _ _ _ _)
      | (with_reducible exact petrinetref07_Table.mono _ _)
      | (with_reducible exact LeO.refl _)
      | (with_reducible exact LeO.none _)
      | (with_reducible refine LeO.ite ?_ ?_)
      | (with_reducible refine LeO.bind ?_ (fun _ => ?_))
      | exact ih0 _ _ _
      | exact ih1 _ _ _ _
      | exact ih2 _ _ _ _ _
      | exact petrinetref07_Table.mono _ _
      | exact LeO.none _
      | refine LeO.ite ?_ ?_
      | refine LeO.bind ?_ (fun _ => ?_)
theorem petrinetref07_Paths.mono : ∀ a0 k, LeO (petrinetref07_Paths.f k a0) (petrinetref07_Paths.f (k + 1) a0) := by
  intro a0 k
  obtain ⟨ih0, ih1, ih2⟩ := petrinetref07_Paths.mono_l k
  unfold petrinetref07_Paths.f
  repeat' first
      | (with_reducible exact ih0 _ _ _)
      | (with_reducible exact ih1 _ _ _ _)
      | (with_reducible exact ih2 _ _ _ _ _)
      | (with_reducible exact petrinetref07_Table.mono _ _)
      | (with_reducible exact LeO.refl _)
      | (with_reducible exact LeO.none _)
      | (with_reducible refine LeO.ite ?_ ?_)
      | (with_reducible refine LeO.bind ?_ (fun _ => ?_))
      | exact ih0 _ _ _
      | exact ih1 _ _ _ _
      | exact ih2 _ _ _ _ _
      | exact petrinetref07_Table.mono _ _
      | exact LeO.none _
      | refine LeO.ite ?_ ?_
      | refine LeO.bind ?_ (fun _ => ?_)
/-- The row that a vertex has in the table, and its cells. -/
theorem tab_row {w : World} {base n cap gt : Nat} {xs : List (List Bool)} (h : Kd.S (Kd.slice 4 Kd.bool) 34 w base (fun _ => True) (.slice (some ⟨gt, 0, none⟩) n cap) xs) (i : Int) (h0 : 0 ≤ i) (hi : i < n) :
    ∃ A c, w.cell? ⟨gt, i.toNat, none⟩ = some (.slice A (rd_L4 xs i).length c) ∧ (rd_L4 xs i).length ≤ c ∧
      ∀ j : Int, 0 ≤ j → j < (rd_L4 xs i).length → ∃ g, A = some ⟨g, 0, none⟩ ∧ base ≤ g ∧ w.cell? ⟨g, j.toNat, none⟩ = some (.bool (rdOf false (rd_L4 xs i) j)) ∧ w.frozen? ⟨g, j.toNat, none⟩ = false ∧
        ∀ x, Kd.S (Kd.slice 4 Kd.bool) 34 (w.setCell ⟨g, j.toNat, none⟩ (.bool x)) base (fun _ => True) (.slice (some ⟨gt, 0, none⟩) n cap) (xs.set i.toNat ((rd_L4 xs i).set j.toNat x)) := S_row h false i h0 hi

set_option maxHeartbeats 4000000 in
set_option maxRecDepth 100000 in
theorem petrinetref07_Paths.calls (k : Nat) (A0 : Option Addr) (c0 : Nat) (l0 : List (List Int)) (r : List (List Bool)) (w : World) (hr0 : Kd.C (Kd.slice 3 (Kd.int .i64)) w A0 l0.length l0) (hc0 : l0.length ≤ c0) (h : petrinetref07_Paths.f k l0 = some r) :
    Calls Try.prog 33 #[.slice A0 l0.length c0] w fun e w' => ∃ v0_ : Value, e = .returned (v0_) ∧ Kd.S (Kd.slice 4 Kd.bool) 34 w' w.heap.size (fun _ => True) v0_ r ∧ Below w.heap.size w w' := by
  have HR0 := Aside0.mk hr0
  have HC0 := Aside0.mk hc0
  clear hr0 hc0
  unfold petrinetref07_Paths.f at h
  obtain ⟨t, ht, h⟩ := Option.bind_eq_some_iff.mp h
  have HT := Aside0.mk ht
  have H := Aside0.mk h
  clear ht h
  go_enter Try.func33, Try.ntmps33
  go_wp2_with (first | (go_at_call 36; refine (petrinetref07_Table.calls k _ _ _ _ _ HR0.out HC0.out HT.out).mono ?_; rintro e w1 ⟨vt, rfl, ho, hb⟩; have HO := Aside0.mk ho; have HB := Aside0.mk hb; clear ho hb))
  go_loopg [4] k (fun kq v4 w' => ∃ (x3 : List (List Bool)) (x4 : Int), v4 = .int .i64 x4 ∧ Aside0 (petrinetref07_Paths.l0 kq l0 x3 x4 = some r) ∧ Aside0 (kq ≤ k) ∧ Aside0 (Kd.S (Kd.slice 4 Kd.bool) 34 w' w.heap.size (fun _ => True) vt x3) ∧ Aside0 (Below w.heap.size w w'))
  case atStart => exact ⟨_, 0, rfl, H, ⟨Nat.le_refl _⟩, HO, HB⟩
  case round =>
    clear H HO HB
    obtain ⟨x3, x4, rfl, HA, HK1, HO, HB⟩ := hrel
    cases gk with
    | zero => exact absurd HA.out (by simp [petrinetref07_Paths.l0])
    | succ k1 =>
    have H := HA.out
    clear HA
    simp only [petrinetref07_Paths.l0] at H
    by_cases c1 : x4 < (l0.length : Int)
    case neg =>
      rw [if_neg c1] at H
      have c1b : decide (x4 < (l0.length : Int)) = false := decide_eq_false c1
      obtain rfl := Option.some.inj H
      clear H
      obtain ⟨A5, k5, rfl⟩ := Kd.S_slice HO.out
      go_wp2
      go_ret
      exact ⟨_, rfl, HO.out, HB.out⟩
    rw [if_pos c1] at H
    have c1b : decide (x4 < (l0.length : Int)) = true := decide_eq_true c1
    have H' := Aside0.mk H
    clear H
    go_wp2
    go_loopg [5] k1 (fun kq v5 w' => ∃ (x3 : List (List Bool)) (x5 : Int), v5 = .int .i64 x5 ∧ Aside0 (petrinetref07_Paths.l1 kq l0 x3 x4 x5 = some r) ∧ Aside0 (kq ≤ k1) ∧ Aside0 (Kd.S (Kd.slice 4 Kd.bool) 34 w' w.heap.size (fun _ => True) vt x3) ∧ Aside0 (Below w.heap.size w w'))
    case atStart => exact ⟨_, 0, rfl, H', ⟨Nat.le_refl _⟩, HO, HB⟩
    case round =>
      clear H' HO HB
      obtain ⟨x3, x5, rfl, HA, HK2, HO, HB⟩ := hrel
      cases gk with
      | zero => exact absurd HA.out (by simp [petrinetref07_Paths.l1])
      | succ k2 =>
      have H := HA.out
      clear HA
      simp only [petrinetref07_Paths.l1] at H
      by_cases c2 : x5 < (l0.length : Int)
      case neg =>
        rw [if_neg c2] at H
        have c2b : decide (x5 < (l0.length : Int)) = false := decide_eq_false c2
        have H' := Aside0.mk H
        clear H
        go_wp2
        go_roundg k2
        case measure => have := HK1.out; have := HK2.out; omega
        case rel => exact ⟨_, _, rfl, H', ⟨by have := HK1.out; have := HK2.out; omega⟩, HO, HB⟩
      rw [if_pos c2] at H
      have c2b : decide (x5 < (l0.length : Int)) = true := decide_eq_true c2
      have H' := Aside0.mk H
      clear H
      go_wp2
      go_loopg [6] k2 (fun kq v6 w' => ∃ (x3 : List (List Bool)) (x6 : Int), v6 = .int .i64 x6 ∧ Aside0 (petrinetref07_Paths.l2 kq l0 x3 x4 x5 x6 = some r) ∧ Aside0 (kq ≤ k2) ∧ Aside0 (Kd.S (Kd.slice 4 Kd.bool) 34 w' w.heap.size (fun _ => True) vt x3) ∧ Aside0 (Below w.heap.size w w'))
      case atStart => exact ⟨_, 0, rfl, H', ⟨Nat.le_refl _⟩, HO, HB⟩
      case round =>
        clear H' HO HB
        obtain ⟨x3, x6, rfl, HA, HK3, HO, HB⟩ := hrel
        cases gk with
        | zero => exact absurd HA.out (by simp [petrinetref07_Paths.l2])
        | succ k3 =>
        have H := HA.out
        clear HA
        simp only [petrinetref07_Paths.l2] at H
        by_cases c3 : x6 < (l0.length : Int)
        case neg =>
          rw [if_neg c3] at H
          have c3b : decide (x6 < (l0.length : Int)) = false := decide_eq_false c3
          have H' := Aside0.mk H
          clear H
          go_wp2
          go_roundg k3
          case measure => have := HK1.out; have := HK2.out; have := HK3.out; omega
          case rel => exact ⟨_, _, rfl, H', ⟨by have := HK3.out; have := HK2.out; omega⟩, HO, HB⟩
        rw [if_pos c3] at H
        have c3b : decide (x6 < (l0.length : Int)) = true := decide_eq_true c3
        by_cases d1 : 0 ≤ x5
        case neg => rw [if_neg d1] at H; cases H
        rw [if_pos d1] at H
        by_cases d2 : x5 < (x3.length : Int)
        case neg => rw [if_neg d2] at H; cases H
        rw [if_pos d2] at H
        by_cases d3 : 0 ≤ x6
        case neg => rw [if_neg d3] at H; cases H
        rw [if_pos d3] at H
        by_cases d4 : x6 < ((rd_L4 x3 x5).length : Int)
        case neg => rw [if_neg d4] at H; cases H
        rw [if_pos d4] at H
        obtain ⟨gt, ct, rfl, _, _, _⟩ := Kd.S_form HO.out (by omega)
        obtain ⟨A1, k1', hx1, _, hrow⟩ := tab_row HO.out x5 d1 d2
        obtain ⟨gr, rfl, hgr, hx2, hf2, hput⟩ := hrow x6 d3 d4
        have hput' := Aside0.mk hput
        by_cases e1 : rdOf false (rd_L4 x3 x5) x6 = true
        · rw [if_pos e1] at H
          rw [e1] at hx2
          have H' := Aside0.mk H
          clear H hput hrow e1
          go_wp2
          go_region
          go_wp2
          go_roundg k3
          case measure => have := HK1.out; have := HK2.out; have := HK3.out; omega
          case rel => exact ⟨_, _, rfl, H', ⟨by have := HK3.out; omega⟩, ⟨Kd.S_drew (hput'.out true)⟩, ⟨below_drew (below_set HB.out hgr)⟩⟩
        · rw [if_neg e1] at H
          have e1' : rdOf false (rd_L4 x3 x5) x6 = false := Bool.eq_false_iff.mpr e1
          rw [e1'] at hx2
          by_cases d5 : 0 ≤ x4
          case neg => rw [if_neg d5] at H; cases H
          rw [if_pos d5] at H
          by_cases d6 : x4 < ((rd_L4 x3 x5).length : Int)
          case neg => rw [if_neg d6] at H; cases H
          rw [if_pos d6] at H
          obtain ⟨gr2, eg, _, hx3, hf3, _⟩ := hrow x4 d5 d6
          injection eg with eg
          injection eg with eg _ _
          subst eg
          by_cases e2 : rdOf false (rd_L4 x3 x5) x4 = true
          · rw [if_pos e2] at H
            rw [e2] at hx3
            by_cases d7 : x4 < (x3.length : Int)
            case neg => rw [if_neg d7] at H; cases H
            rw [if_pos d7] at H
            by_cases d8 : x6 < ((rd_L4 x3 x4).length : Int)
            case neg => rw [if_neg d8] at H; cases H
            rw [if_pos d8] at H
            obtain ⟨A3, k3', hx4, _, hrow2⟩ := tab_row HO.out x4 d5 d7
            obtain ⟨gq, rfl, _, hx5, hf5, _⟩ := hrow2 x6 d3 d8
            obtain ⟨b3, eb3⟩ : ∃ b3, b3 = rdOf false (rd_L4 x3 x4) x6 := ⟨_, rfl⟩
            rw [← eb3] at H hx5
            have H' := Aside0.mk H
            clear H hput hrow hrow2 e1 e1' e2 eb3
            cases b3 with
            | true =>
              go_wp2
              go_region
              go_wp2
              go_roundg k3
              case measure => have := HK1.out; have := HK2.out; have := HK3.out; omega
              case rel => exact ⟨_, _, rfl, H', ⟨by have := HK3.out; omega⟩, ⟨Kd.S_drew (hput'.out true)⟩, ⟨below_drew (below_set HB.out hgr)⟩⟩
            | false =>
              go_wp2
              go_region
              go_wp2
              go_roundg k3
              case measure => have := HK1.out; have := HK2.out; have := HK3.out; omega
              case rel => exact ⟨_, _, rfl, H', ⟨by have := HK3.out; omega⟩, ⟨Kd.S_drew (hput'.out false)⟩, ⟨below_drew (below_set HB.out hgr)⟩⟩
          · rw [if_neg e2] at H
            have e2' : rdOf false (rd_L4 x3 x5) x4 = false := Bool.eq_false_iff.mpr e2
            rw [e2'] at hx3
            have H' := Aside0.mk H
            clear H hput hrow e1 e1' e2 e2'
            go_wp2
            go_region
            go_wp2
            go_roundg k3
            case measure => have := HK1.out; have := HK2.out; have := HK3.out; omega
            case rel => exact ⟨_, _, rfl, H', ⟨by have := HK3.out; omega⟩, ⟨Kd.S_drew (hput'.out false)⟩, ⟨below_drew (below_set HB.out hgr)⟩⟩

end Go.Proofs.Ytcljocmblplhcaa.P
