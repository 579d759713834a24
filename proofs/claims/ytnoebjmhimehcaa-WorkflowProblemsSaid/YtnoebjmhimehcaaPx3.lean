-- LAID BY OUR PROGRAM OVER THE PRINT (xprint.py, part.py): Lean checks it.
import Derived.Test.YtnoebjmhimehcaaPx0
import Derived.Test.YtnoebjmhimehcaaPx2
import Derived.BigRegion
import Derived.RegionTactic
namespace Go.Proofs.Ytnoebjmhimehcaa.P
open Go.RowKit Go.Proofs.YtnoebjmhimehcaaW.PrintWords Go.Proofs.YtnoebjmhimehcaaW.PrintLast Go.Proofs.YtnoebjmhimehcaaW.PrintMore
attribute [local go_sem] max2_int min2_int max_two min_two max_three min_three max_four min_four   -- for this text's walks alone
set_option linter.unusedVariables false
set_option linter.unusedSimpArgs false

/-! ### r07_Table: function 81 -/
mutual
def r07_Table.l0 : Nat → List (List Int) → List (List Bool) → Int → Option ((List (List Bool)))
 | 0, _, _, _ => none
 | k + 1, x0, x3, x4 => if x4 < (x0.length : Int) then (if 0 ≤ (x0.length : Int) then (if ((x0.length : Int) : Int).toNat ≤ 281474976710656 then (r07_Table.l1 k x0 x3 x4 (List.replicate ((x0.length : Int) : Int).toNat false) 0) else (none)) else (none)) else (some x3)
def r07_Table.l1 : Nat → List (List Int) → List (List Bool) → Int → List Bool → Int → Option ((List (List Bool)))
 | 0, _, _, _, _, _ => none
 | k + 1, x0, x3, x4, x5, x6 => if 0 ≤ x4 then (if x4 < (x0.length : Int) then (if x6 < ((rd_L11 x0 x4).length : Int) then (if 0 ≤ x6 then (if (rd (rd_L11 x0 x4) x6) ≥ 0 then (if (rd (rd_L11 x0 x4) x6) < (x0.length : Int) then (if 0 ≤ (rd (rd_L11 x0 x4) x6) then (if (rd (rd_L11 x0 x4) x6) < (x5.length : Int) then (r07_Table.l1 k x0 x3 x4 (x5.set ((rd (rd_L11 x0 x4) x6) : Int).toNat true) (wrap64 (x6 + 1))) else (none)) else (none)) else (r07_Table.l1 k x0 x3 x4 x5 (wrap64 (x6 + 1)))) else (r07_Table.l1 k x0 x3 x4 x5 (wrap64 (x6 + 1)))) else (none)) else (if x3.length < 5864062014805 then (r07_Table.l0 k x0 (x3 ++ [x5]) (wrap64 (x4 + 1))) else (none))) else (none)) else (none)
end
def r07_Table.f (k : Nat) (l0 : List (List Int)) : Option ((List (List Bool))) := r07_Table.l0 k l0 ([] : List (List Bool)) 0
theorem r07_Table.mono_l : ∀ k, M3 r07_Table.l0 k ∧ M5 r07_Table.l1 k
 | 0 => ⟨fun _ _ _ r h => by simp [r07_Table.l0] at h, fun _ _ _ _ _ r h => by simp [r07_Table.l1] at h⟩
 | k + 1 => by
  obtain ⟨ih0, ih1⟩ := r07_Table.mono_l k
  refine ⟨?_, ?_⟩ <;> dsimp only [M3, M5] <;> intros <;> (first | unfold r07_Table.l0 | unfold r07_Table.l1) <;> repeat' first | (with_reducible first | apply ih0 | apply ih1 | apply lr | apply ln | apply li | refine lb ?_ fun _ => ?_)
theorem r07_Table.mono : ∀ a0 k, LeO (r07_Table.f k a0) (r07_Table.f (k + 1) a0) := by
 intro a0 k
 obtain ⟨ih0, ih1⟩ := r07_Table.mono_l k
 unfold r07_Table.f
 repeat' first | (with_reducible first | apply ih0 | apply ih1 | apply lr | apply ln | apply li | refine lb ?_ fun _ => ?_)
set_option maxHeartbeats 8000000 in
set_option maxRecDepth 100000 in
theorem r07_Table.calls (k : Nat) (A0 : Option Addr) (c0 : Nat) (l0 : List (List Int)) (r : List (List Bool)) (w : World) (hr0 : Kd.C (Kd.slice 3 (Kd.int .i64)) w A0 l0.length l0) (hc0 : l0.length ≤ c0) (h : r07_Table.f k l0 = some r) :
  Calls Try.prog 81 #[.slice A0 l0.length c0] w fun e w' => ∃ v0_ : Value, e = .returned (v0_) ∧ Kd.S (Kd.slice 4 Kd.bool) 63 w' w.heap.size (fun _ => True) v0_ r ∧ Below w.heap.size w w' := by
 have HR0 := am hr0
 have HC0 := am hc0
 clear hr0 hc0
 have HB := am (Below.refl w.heap.size w)
 have H : (r07_Table.l0 k l0 ([] : List (List Bool)) 0) = some r := h
 clear h
 have H' := am H
 clear H
 go_enter Try.func81, Try.ntmps81
 go_wp2
 go_loopg [3, 4] k (fun kq v3 v4 w' => ∃ (x3_1 : List (List Bool)) (x4_1 : Int), v4 = .int .i64 x4_1 ∧ Aside0 (r07_Table.l0 kq l0 x3_1 x4_1 = some r) ∧ Aside0 (kq ≤ k) ∧ Aside0 (Kd.S (Kd.slice 4 Kd.bool) 63 w' w.heap.size (fun _ => True) v3 x3_1) ∧ Aside0 (Below w.heap.size w w'))
 case atStart => exact ⟨(([] : List (List Bool))), (0), prs, H', ⟨Nat.le_refl _⟩, ⟨knl⟩, ⟨pbg⟩⟩
 clear H'
 obtain ⟨x3_1, x4_1, rfl, HA, HK1, HO_3, HB⟩ := hrel
 obtain _ | k1 := gk
 ·exact absurd HA.1 (by simp [r07_Table.l0])
 have H := HA.1
 clear HA
 simp only [r07_Table.l0] at H
 by_cases c2 : x4_1 < (l0.length : Int)
 rotate_left
 ·rw [if_neg c2] at H
  have c2b0 : decide (x4_1 < (l0.length : Int)) = false := decide_eq_false c2
  clear c2
  obtain rfl := Option.some.inj H
  go_wp2
  go_ret
  exact ⟨_, per, by (with_reducible repeat (first | apply Kd.S_alloc | apply Kd.S_drewN | apply Kd.S_drew)); exact HO_3.1, pbg⟩
 rw [if_pos c2] at H
 have c2b0 : decide (x4_1 < (l0.length : Int)) = true := decide_eq_true c2
 clear c2
 replace H := ifp H
 obtain ⟨c3, H⟩ := H
 have c3b0 := eq_true c3
 have c3b1 : decide (0 ≤ (l0.length : Int)) = true := decide_eq_true c3
 clear c3
 replace H := ifp H
 obtain ⟨c4, H⟩ := H
 have c4b0 := eq_true c4
 have c4b1 : decide (((l0.length : Int) : Int).toNat ≤ 281474976710656) = true := decide_eq_true c4
 clear c4
 obtain ⟨y463, hy463⟩ : ∃ y_ : List Bool, y_ = (List.replicate ((l0.length : Int) : Int).toNat false) := ⟨_, rfl⟩
 replace H : (r07_Table.l1 k1 l0 x3_1 x4_1 y463 0) = some r := hrp hy463 H
 have Ny463 := am hy463
 clear hy463
 have H' := am H
 clear H
 go_wp2_with (first | ((with_reducible refine gate_dst (N := 15) rfl ?_); (try (refine gate_guard (by rfl) ?_; dsimp only)); refine Kd.R_make Kd.bool _ 4 rfl (N := 15) rfl 63 _ _ rfl (l0.length : Int) rfl rfl Try.underlying63 (.bool false) 1 info4 rfl (by decide) (by omega) false (ok := fun _ => True) (okp := fun _ => True) rfl (fun _ hk => hk) trivial (dq) (Nat.le_trans (Nat.mul_le_mul_right _ (dq : (l0.length : Int).toNat ≤ 281474976710656)) (by omega)) (Below.refl _ _) (Nat.le_refl _) ?_; intro v464 w5 ho6 hb hg_ hnew_; clear hg_ hnew_; (first | rw [← Ny463.1] at ho6 | (simp only [Int.reduceToNat] at ho6; rw [← Ny463.1] at ho6)); have HO465 := am (Kd.R_lower ho6 (below_size pbl)); replace HO_3 := am (Kd.S_elder' (pks HO_3.1) (Kd.R_base ho6) hb); replace HB := bsl hb; clear hb ho6))
 go_loopg [6] k1 (fun kq v6 w' => ∃ (x5_2 : List Bool) (x6_2 : Int), v6 = .int .i64 x6_2 ∧ Aside0 (r07_Table.l1 kq l0 x3_1 x4_1 x5_2 x6_2 = some r) ∧ Aside0 (kq ≤ k1) ∧ Aside0 (Kd.S (Kd.slice 4 Kd.bool) 63 w' w.heap.size (fun k_ => some k_ ≠ (v464 : Value).ownBlock) u3 x3_1) ∧ Aside0 (Kd.R Kd.bool 4 w' w.heap.size (fun _ => True) v464 x5_2) ∧ Aside0 (Below w.heap.size w w'))
 case atStart => exact ⟨(y463), (0), prs, H', ⟨Nat.le_refl _⟩, ⟨by (with_reducible repeat (first | apply Kd.S_alloc | apply Kd.S_drewN | apply Kd.S_drew)); exact Kd.S_mono HO_3.1 (fun _ hk => hk.2)⟩, ⟨pkr HO465.1⟩, ⟨pbg⟩⟩
 clear H'
 try clear c2 c2b0 c3 c3b0 c3b1 c4 c4b0 c4b1
 obtain ⟨x5_2, x6_2, rfl, HA, HK2, HO_3, HO_5, HB⟩ := hrel
 obtain _ | k2 := gk
 ·exact absurd HA.1 (by simp [r07_Table.l1])
 have H := HA.1
 clear HA
 simp only [r07_Table.l1] at H
 replace H := ifp H
 obtain ⟨c7, H⟩ := H
 have c7b0 := decide_eq_true c7
 clear c7
 replace H := ifp H
 obtain ⟨c8, H⟩ := H
 have c8b0 := decide_eq_true c8
 clear c8
 by_cases c9 : x6_2 < ((rd_L11 l0 x4_1).length : Int)
 rotate_left
 ·rw [if_neg c9] at H
  have c9b0 : decide (x6_2 < ((rd_L11 l0 x4_1).length : Int)) = false := decide_eq_false c9
  clear c9
  replace H := ifp H
  obtain ⟨c18, H⟩ := H
  have LMc18 := am c18
  clear c18
  obtain ⟨y474, hy474⟩ : ∃ y_ : List (List Bool), y_ = (x3_1 ++ [x5_2]) := ⟨_, rfl⟩
  replace H : (r07_Table.l0 k2 l0 y474 (wrap64 (x4_1 + 1))) = some r := hrp hy474 H
  have Ny474 := am hy474
  clear hy474
  have H' := am H
  clear H
  obtain ⟨p466, q466, ad466, A466_0, c466_0, e466, hx466_0, HC466_0, HR466_0⟩ := bL11 HR0.1 HB.1 x4_1
  cases e466
  obtain ⟨Ao20, co20, eo20⟩ := Kd.R_slice HO_5.1
  subst eo20
  go_wp2_with (first | ((with_reducible refine gate_builtin (b := .append) (xs := #[.tmp 54, .tmp 56]) rfl ?_); (try (refine gate_guard (by rfl) ?_; dsimp only)); at_builtin; refine Kd.S_append (Kd.slice 4 Kd.bool) (w0 := w) w.heap.size rfl (.tmp 54) (.tmp 56) 91 63 (.slice none 0 0) 24 rfl Try.underlying91 info63 rfl (by decide) (by omega) u3 x3_1 x5_2 [.slice Ao20 x5_2.length co20] (fun _ => True) (fun k_ => some k_ = (.slice Ao20 x5_2.length co20 : Value).ownBlock) rfl rfl ?aP (fun k_ hk_ => ((Kd.R_mono (ok' := fun k_ => ((fun _ => True)) k_ ∧ some k_ ≠ (u3 : Value).ownBlock) (Kd.R_apart' (HO_5.1) (Kd.S_typed HO_3.1) (by decide)) (fun k_ hk => ⟨trivial, hk.2⟩))).1 k_ hk_.symm) ?aF ?aO ?aB ?aS ?aL ?_; (case aP => exact Kd.M_row (Kd.R_mono (Kd.R_tight rfl (Kd.R_mono (ok' := fun k_ => ((fun _ => True)) k_ ∧ some k_ ≠ (u3 : Value).ownBlock) (Kd.R_apart' (HO_5.1) (Kd.S_typed HO_3.1) (by decide)) (fun k_ hk => ⟨trivial, hk.2⟩))) (fun _ h_ => h_))); (case aB => exact pbl); (case aF => exact (fun _ _ => trivial)); (case aO => exact (by (with_reducible repeat (first | apply Kd.S_alloc | apply Kd.S_drewN | apply Kd.S_drew)); exact Kd.S_mono HO_3.1 (fun k_ hk => ⟨trivial, fun e_ => hk e_⟩))); (case aS => exact (below_size pbl)); (case aL => have := LMc18.1; omega); intro v475 w19 ho hb hg hat; rw [← Ny474.1] at ho; have HO476 := am ho; replace HB := am hb; (try clear HO_3 HO_5); clear ho hb hg hat))
  go_roundg k2
  case measure => have := HK1.1; have := HK2.1; omega
  case rel => exact ⟨(y474), (wrap64 (x4_1 + 1)), prs, H', ⟨by have := HK1.1; have := HK2.1; omega⟩, ⟨pks HO476.1⟩, ⟨pbg⟩⟩
 rw [if_pos c9] at H
 have c9b0 : decide (x6_2 < ((rd_L11 l0 x4_1).length : Int)) = true := decide_eq_true c9
 clear c9
 replace H := ifp H
 obtain ⟨c10, H⟩ := H
 have c10b0 := decide_eq_true c10
 clear c10
 by_cases c11 : (rd (rd_L11 l0 x4_1) x6_2) ≥ 0
 rotate_left
 ·rw [if_neg c11] at H
  have c11b0 : decide (0 ≤ (rd (rd_L11 l0 x4_1) x6_2)) = false := decide_eq_false c11
  clear c11
  have H' := am H
  clear H
  obtain ⟨p466, q466, ad466, A466_0, c466_0, e466, hx466_0, HC466_0, HR466_0⟩ := bL11 HR0.1 HB.1 x4_1
  cases e466
  obtain ⟨p467, q467, ad467, A467_0, c467_0, e467, hx467_0, HC467_0, HR467_0⟩ := bL11 HR0.1 HB.1 x4_1
  obtain rfl : ad466 = ad467 := (by injection e467)
  have ea_ := Option.some.inj (hx466_0.symm.trans hx467_0)
  injection ea_ with ea_ en_ ec_
  subst ea_
  subst ec_
  clear en_
  obtain ⟨p468, q468, ad468, e468, hx468_0⟩ := bint HR467_0.1 HB.1 x6_2
  cases e468
  go_wp2
  go_roundg k2
  case measure => have := HK1.1; have := HK2.1; omega
  case rel => exact ⟨(x5_2), (wrap64 (x6_2 + 1)), prs, H', ⟨by have := HK1.1; have := HK2.1; omega⟩, ⟨pks HO_3.1⟩, ⟨pkr HO_5.1⟩, ⟨pbg⟩⟩
 rw [if_pos c11] at H
 have c11b0 : decide (0 ≤ (rd (rd_L11 l0 x4_1) x6_2)) = true := decide_eq_true c11
 clear c11
 by_cases c12 : (rd (rd_L11 l0 x4_1) x6_2) < (l0.length : Int)
 rotate_left
 ·rw [if_neg c12] at H
  have c12b0 : decide ((rd (rd_L11 l0 x4_1) x6_2) < (l0.length : Int)) = false := decide_eq_false c12
  clear c12
  have H' := am H
  clear H
  obtain ⟨p466, q466, ad466, A466_0, c466_0, e466, hx466_0, HC466_0, HR466_0⟩ := bL11 HR0.1 HB.1 x4_1
  cases e466
  obtain ⟨p467, q467, ad467, A467_0, c467_0, e467, hx467_0, HC467_0, HR467_0⟩ := bL11 HR0.1 HB.1 x4_1
  obtain rfl : ad466 = ad467 := (by injection e467)
  have ea_ := Option.some.inj (hx466_0.symm.trans hx467_0)
  injection ea_ with ea_ en_ ec_
  subst ea_
  subst ec_
  clear en_
  obtain ⟨p468, q468, ad468, e468, hx468_0⟩ := bint HR467_0.1 HB.1 x6_2
  cases e468
  obtain ⟨p469, q469, ad469, A469_0, c469_0, e469, hx469_0, HC469_0, HR469_0⟩ := bL11 HR0.1 HB.1 x4_1
  obtain rfl : ad466 = ad469 := (by injection e469)
  have ea_ := Option.some.inj (hx466_0.symm.trans hx469_0)
  injection ea_ with ea_ en_ ec_
  subst ea_
  subst ec_
  clear en_
  obtain ⟨p470, q470, ad470, e470, hx470_0⟩ := bint HR469_0.1 HB.1 x6_2
  cases e470
  go_wp2
  go_roundg k2
  case measure => have := HK1.1; have := HK2.1; omega
  case rel => exact ⟨(x5_2), (wrap64 (x6_2 + 1)), prs, H', ⟨by have := HK1.1; have := HK2.1; omega⟩, ⟨pks HO_3.1⟩, ⟨pkr HO_5.1⟩, ⟨pbg⟩⟩
 rw [if_pos c12] at H
 have c12b0 : decide ((rd (rd_L11 l0 x4_1) x6_2) < (l0.length : Int)) = true := decide_eq_true c12
 clear c12
 replace H := ifp H
 obtain ⟨c13, H⟩ := H
 have c13b0 := decide_eq_true c13
 clear c13
 replace H := ifp H
 obtain ⟨c14, H⟩ := H
 have c14b0 := decide_eq_true c14
 clear c14
 obtain ⟨y473, hy473⟩ : ∃ y_ : List Bool, y_ = (x5_2.set ((rd (rd_L11 l0 x4_1) x6_2) : Int).toNat true) := ⟨_, rfl⟩
 replace H : (r07_Table.l1 k2 l0 x3_1 x4_1 y473 (wrap64 (x6_2 + 1))) = some r := hrp hy473 H
 have Ny473 := am hy473
 clear hy473
 have H' := am H
 clear H
 obtain ⟨p466, q466, ad466, A466_0, c466_0, e466, hx466_0, HC466_0, HR466_0⟩ := bL11 HR0.1 HB.1 x4_1
 cases e466
 obtain ⟨p467, q467, ad467, A467_0, c467_0, e467, hx467_0, HC467_0, HR467_0⟩ := bL11 HR0.1 HB.1 x4_1
 obtain rfl : ad466 = ad467 := (by injection e467)
 have ea_ := Option.some.inj (hx466_0.symm.trans hx467_0)
 injection ea_ with ea_ en_ ec_
 subst ea_
 subst ec_
 clear en_
 obtain ⟨p468, q468, ad468, e468, hx468_0⟩ := bint HR467_0.1 HB.1 x6_2
 cases e468
 obtain ⟨p469, q469, ad469, A469_0, c469_0, e469, hx469_0, HC469_0, HR469_0⟩ := bL11 HR0.1 HB.1 x4_1
 obtain rfl : ad466 = ad469 := (by injection e469)
 have ea_ := Option.some.inj (hx466_0.symm.trans hx469_0)
 injection ea_ with ea_ en_ ec_
 subst ea_
 subst ec_
 clear en_
 obtain ⟨p470, q470, ad470, e470, hx470_0⟩ := bint HR469_0.1 HB.1 x6_2
 cases e470
 obtain ⟨p471, q471, ad471, A471_0, c471_0, e471, hx471_0, HC471_0, HR471_0⟩ := bL11 HR0.1 HB.1 x4_1
 obtain rfl : ad466 = ad471 := (by injection e471)
 have ea_ := Option.some.inj (hx466_0.symm.trans hx471_0)
 injection ea_ with ea_ en_ ec_
 subst ea_
 subst ec_
 clear en_
 obtain ⟨p472, q472, ad472, e472, hx472_0⟩ := bint HR471_0.1 HB.1 x6_2
 cases e472
 have p15 : 0 ≤ ((rd (rd_L11 l0 x4_1) x6_2) : Int) := dq
 have q15 : ((rd (rd_L11 l0 x4_1) x6_2) : Int) < ((x5_2.length : Int) : Int) := dq
 obtain ⟨go15, co15, eo15, gb15, gl15, cl15, HG15⟩ := Kd.R_form HO_5.1 (by omega)
 (first | cases eo15 | (injection eo15 with ea_ en_ ec_; (first | subst ea_ | (injection ea_ with ea_; subst ea_)); subst ec_; clear en_))
 have GB15 := am gb15
 have GG15 := am HG15
 clear gb15 gl15 HG15
 obtain ⟨hx15_0, hf15_0⟩ := Kd.R_celln false HO_5.1 ((rd (rd_L11 l0 x4_1) x6_2) : Int) p15 q15
 replace p15 := eq_true p15
 replace q15 := eq_true q15
 have HP16 := Kd.R_putg HO_5.1 ((rd (rd_L11 l0 x4_1) x6_2) : Int) true
 go_wp2_with (first | ((with_reducible refine gate_store (t := 4) (p := 53) rfl ?_); refine store_event (t := 4) (p := 53) (v := ?vo_w17) (w1 := (wr.setCell ⟨go15, ((rd (rd_L11 l0 x4_1) x6_2) : Int).toNat, none⟩ (.bool true))) ?hg ?ho ?hn ?hr ?_; (case ho => rfl); (case hg => rfl); (case hn => rfl); (case hr => first | (go_simp; done) | (go_simp; rfl)); intro w17 hw; have hg : wr.grownBy w17 (some go15) := (by rw [hw]; exact HP16.2); have hp_ : Kd.R Kd.bool 4 w17 w.heap.size (fun _ => True) (.slice (some ⟨go15, 0, none⟩) x5_2.length co15) y473 := (by rw [hw, Ny473.1]; exact HP16.1); clear HP16; replace HO_3 := am (Kd.S_after (v := (.slice (some ⟨go15, 0, none⟩) x5_2.length co15)) (v1 := (.slice (some ⟨go15, 0, none⟩) x5_2.length co15)) (ok := (fun _ => True)) (by (with_reducible repeat (first | apply Kd.S_alloc | apply Kd.S_drewN | apply Kd.S_drew)); exact Kd.S_mono HO_3.1 (fun _ hk => ⟨trivial, hk⟩)) hg (.inl rfl)); replace HO_5 := am hp_; replace HB := am ((by rw [hw]; exact below_set (HB.1) GB15.1 : Below w.heap.size w w17)); clear hg hw hp_))
 go_roundg k2
 case measure => have := HK1.1; have := HK2.1; omega
 case rel => exact ⟨(y473), (wrap64 (x6_2 + 1)), prs, H', ⟨by have := HK1.1; have := HK2.1; omega⟩, ⟨by (with_reducible repeat (first | apply Kd.S_alloc | apply Kd.S_drewN | apply Kd.S_drew)); exact Kd.S_mono HO_3.1 (fun _ hk => hk.2)⟩, ⟨pkr HO_5.1⟩, ⟨pbg⟩⟩

/-! ### r07_Reverse: function 70 -/
mutual
def r07_Reverse.l0 : Nat → List (List Int) → List (List Bool) → List (List Int) → Int → Option ((List (List Int)))
 | 0, _, _, _, _ => none
 | k + 1, x0, x3, x4, x5 => if x5 < (x0.length : Int) then (r07_Reverse.l1 k x0 x3 x4 x5 ([] : List Int) 0) else (some x4)
def r07_Reverse.l1 : Nat → List (List Int) → List (List Bool) → List (List Int) → Int → List Int → Int → Option ((List (List Int)))
 | 0, _, _, _, _, _, _ => none
 | k + 1, x0, x3, x4, x5, x6, x7 => if x7 < (x0.length : Int) then (if 0 ≤ x7 then (if x7 < (x3.length : Int) then (if 0 ≤ x5 then (if x5 < ((rd_L13 x3 x7).length : Int) then (if rdOf false (rd_L13 x3 x7) x5 = true then (if x6.length < 17592186044416 then (r07_Reverse.l1 k x0 x3 x4 x5 (x6 ++ [x7]) (wrap64 (x7 + 1))) else (none)) else (r07_Reverse.l1 k x0 x3 x4 x5 x6 (wrap64 (x7 + 1)))) else (none)) else (none)) else (none)) else (none)) else (if x4.length < 5864062014805 then (r07_Reverse.l0 k x0 x3 (x4 ++ [x6]) (wrap64 (x5 + 1))) else (none))
end
def r07_Reverse.f (k : Nat) (l0 : List (List Int)) : Option ((List (List Int))) := (r07_Table.f k l0).bind fun t493 => (r07_Reverse.l0 k l0 t493 ([] : List (List Int)) 0)
theorem r07_Reverse.mono_l : ∀ k, M4 r07_Reverse.l0 k ∧ M6 r07_Reverse.l1 k
 | 0 => ⟨fun _ _ _ _ r h => by simp [r07_Reverse.l0] at h, fun _ _ _ _ _ _ r h => by simp [r07_Reverse.l1] at h⟩
 | k + 1 => by
  obtain ⟨ih0, ih1⟩ := r07_Reverse.mono_l k
  refine ⟨?_, ?_⟩ <;> dsimp only [M4, M6] <;> intros <;> (first | unfold r07_Reverse.l0 | unfold r07_Reverse.l1) <;> repeat' first | (with_reducible first | apply ih0 | apply ih1 | apply r07_Table.mono | apply lr | apply ln | apply li | refine lb ?_ fun _ => ?_)
theorem r07_Reverse.mono : ∀ a0 k, LeO (r07_Reverse.f k a0) (r07_Reverse.f (k + 1) a0) := by
 intro a0 k
 obtain ⟨ih0, ih1⟩ := r07_Reverse.mono_l k
 unfold r07_Reverse.f
 repeat' first | (with_reducible first | apply ih0 | apply ih1 | apply r07_Table.mono | apply lr | apply ln | apply li | refine lb ?_ fun _ => ?_)
set_option maxHeartbeats 8000000 in
set_option maxRecDepth 100000 in
theorem r07_Reverse.calls (k : Nat) (A0 : Option Addr) (c0 : Nat) (l0 : List (List Int)) (r : List (List Int)) (w : World) (hr0 : Kd.C (Kd.slice 3 (Kd.int .i64)) w A0 l0.length l0) (hc0 : l0.length ≤ c0) (h : r07_Reverse.f k l0 = some r) :
  Calls Try.prog 70 #[.slice A0 l0.length c0] w fun e w' => ∃ v0_ : Value, e = .returned (v0_) ∧ Kd.S (Kd.slice 3 (Kd.int .i64)) 39 w' w.heap.size (fun _ => True) v0_ r ∧ Below w.heap.size w w' := by
 have HR0 := am hr0
 have HC0 := am hc0
 clear hr0 hc0
 have HB := am (Below.refl w.heap.size w)
 have H : ((r07_Table.f k l0).bind fun t493 => (r07_Reverse.l0 k l0 t493 ([] : List (List Int)) 0)) = some r := h
 clear h
 replace H := bnd H
 obtain ⟨t493, A2, H⟩ := H
 (try dsimp only at H)
 have H' := am H
 clear H
 go_enter Try.func70, Try.ntmps70
 go_wp2_with (first | ((with_reducible refine gate_callee (f := 81) rfl ?_); refine gC 9 Try.func81 _ (r07_Table.calls k _ _ l0 t493 _ (csd HR0.1) HC0.1 A2.1) ?_; rintro e w3 ⟨v494, rfl, ho0, hb⟩; refine ⟨_, rfl, ?_⟩; have HO495 := am (Kd.S_lower ho0 (below_size pbl)); replace HB := bsl hb; (try clear hb); (try clear ho0)))
 go_loopg [4, 5] k (fun kq v4 v5 w' => ∃ (x4_1 : List (List Int)) (x5_1 : Int), v5 = .int .i64 x5_1 ∧ Aside0 (r07_Reverse.l0 kq l0 t493 x4_1 x5_1 = some r) ∧ Aside0 (kq ≤ k) ∧ Aside0 (Kd.S (Kd.slice 4 Kd.bool) 63 w' w.heap.size (fun _ => True) v494 t493) ∧ Aside0 (Kd.S (Kd.slice 3 (Kd.int .i64)) 39 w' w.heap.size (fun _ => True) v4 x4_1) ∧ Aside0 (Below w.heap.size w w'))
 case atStart => exact ⟨(([] : List (List Int))), (0), prs, H', ⟨Nat.le_refl _⟩, ⟨pks HO495.1⟩, ⟨knl⟩, ⟨pbg⟩⟩
 clear H'
 obtain ⟨x4_1, x5_1, rfl, HA, HK1, HO_3, HO_4, HB⟩ := hrel
 obtain _ | k1 := gk
 ·exact absurd HA.1 (by simp [r07_Reverse.l0])
 have H := HA.1
 clear HA
 simp only [r07_Reverse.l0] at H
 by_cases c4 : x5_1 < (l0.length : Int)
 rotate_left
 ·rw [if_neg c4] at H
  have c4b0 : decide (x5_1 < (l0.length : Int)) = false := decide_eq_false c4
  clear c4
  obtain rfl := Option.some.inj H
  go_wp2
  go_ret
  exact ⟨_, per, by (with_reducible repeat (first | apply Kd.S_alloc | apply Kd.S_drewN | apply Kd.S_drew)); exact HO_4.1, pbg⟩
 rw [if_pos c4] at H
 have c4b0 : decide (x5_1 < (l0.length : Int)) = true := decide_eq_true c4
 clear c4
 have H' := am H
 clear H
 go_wp2
 go_loopg [6, 7] k1 (fun kq v6 v7 w' => ∃ (x6_2 : List Int) (x7_2 : Int), v7 = .int .i64 x7_2 ∧ Aside0 (r07_Reverse.l1 kq l0 t493 x4_1 x5_1 x6_2 x7_2 = some r) ∧ Aside0 (kq ≤ k1) ∧ Aside0 (Kd.S (Kd.slice 4 Kd.bool) 63 w' w.heap.size (fun _ => True) v494 t493) ∧ Aside0 (Kd.S (Kd.slice 3 (Kd.int .i64)) 39 w' w.heap.size (fun k_ => some k_ ≠ (v6 : Value).ownBlock) u4 x4_1) ∧ Aside0 (Kd.R (Kd.int .i64) 3 w' w.heap.size (fun _ => True) v6 x6_2) ∧ Aside0 (Below w.heap.size w w'))
 case atStart => exact ⟨(([] : List Int)), (0), prs, H', ⟨Nat.le_refl _⟩, ⟨pks HO_3.1⟩, ⟨by (with_reducible repeat (first | apply Kd.S_alloc | apply Kd.S_drewN | apply Kd.S_drew)); exact Kd.S_mono HO_4.1 (fun _ hk => (by simp [Value.ownBlock]))⟩, ⟨knl⟩, ⟨pbg⟩⟩
 clear H'
 try clear c4 c4b0
 obtain ⟨x6_2, x7_2, rfl, HA, HK2, HO_3, HO_4, HO_6, HB⟩ := hrel
 obtain _ | k2 := gk
 ·exact absurd HA.1 (by simp [r07_Reverse.l1])
 have H := HA.1
 clear HA
 simp only [r07_Reverse.l1] at H
 by_cases c5 : x7_2 < (l0.length : Int)
 rotate_left
 ·rw [if_neg c5] at H
  have c5b0 : decide (x7_2 < (l0.length : Int)) = false := decide_eq_false c5
  clear c5
  replace H := ifp H
  obtain ⟨c16, H⟩ := H
  have LMc16 := am c16
  clear c16
  obtain ⟨y501, hy501⟩ : ∃ y_ : List (List Int), y_ = (x4_1 ++ [x6_2]) := ⟨_, rfl⟩
  replace H : (r07_Reverse.l0 k2 l0 t493 y501 (wrap64 (x5_1 + 1))) = some r := hrp hy501 H
  have Ny501 := am hy501
  clear hy501
  have H' := am H
  clear H
  obtain ⟨Ao18, co18, eo18⟩ := Kd.R_slice HO_6.1
  subst eo18
  go_wp2_with (first | ((with_reducible refine gate_builtin (b := .append) (xs := #[.tmp 33, .tmp 35]) rfl ?_); at_builtin; refine Kd.S_append (Kd.slice 3 (Kd.int .i64)) (w0 := w) w.heap.size rfl (.tmp 33) (.tmp 35) 72 39 (.slice none 0 0) 24 rfl Try.underlying72 info39 rfl (by decide) (by omega) u4 x4_1 x6_2 [.slice Ao18 x6_2.length co18] (fun _ => True) (fun k_ => some k_ = (.slice Ao18 x6_2.length co18 : Value).ownBlock) rfl rfl ?aP (fun k_ hk_ => ((Kd.R_mono (ok' := fun k_ => ((fun _ => True)) k_ ∧ some k_ ≠ (u4 : Value).ownBlock) (Kd.R_apart' (HO_6.1) (Kd.S_typed HO_4.1) (by decide)) (fun k_ hk => ⟨trivial, hk.2⟩))).1 k_ hk_.symm) ?aF ?aO ?aB ?aS ?aL ?_; (case aP => exact Kd.M_row (Kd.R_mono (Kd.R_tight rfl (Kd.R_mono (ok' := fun k_ => ((fun _ => True)) k_ ∧ some k_ ≠ (u4 : Value).ownBlock) (Kd.R_apart' (HO_6.1) (Kd.S_typed HO_4.1) (by decide)) (fun k_ hk => ⟨trivial, hk.2⟩))) (fun _ h_ => h_))); (case aB => exact pbl); (case aF => exact (fun _ _ => trivial)); (case aO => exact (by (with_reducible repeat (first | apply Kd.S_alloc | apply Kd.S_drewN | apply Kd.S_drew)); exact Kd.S_mono HO_4.1 (fun k_ hk => ⟨trivial, fun e_ => hk e_⟩))); (case aS => exact (below_size pbl)); (case aL => have := LMc16.1; omega); intro v502 w17 ho hb hg hat; rw [← Ny501.1] at ho; have HO503 := am ho; replace HO_3 := am (Kd.S_over' (pks HO_3.1) (Kd.S_typed (pks HO_4.1)) (by decide) hg); replace HB := am hb; (try clear HO_4 HO_6); clear ho hb hg hat))
  go_roundg k2
  case measure => have := HK1.1; have := HK2.1; omega
  case rel => exact ⟨(y501), (wrap64 (x5_1 + 1)), prs, H', ⟨by have := HK1.1; have := HK2.1; omega⟩, ⟨pks HO_3.1⟩, ⟨pks HO503.1⟩, ⟨pbg⟩⟩
 rw [if_pos c5] at H
 have c5b0 : decide (x7_2 < (l0.length : Int)) = true := decide_eq_true c5
 clear c5
 replace H := ifp H
 obtain ⟨c6, H⟩ := H
 have c6b0 := decide_eq_true c6
 clear c6
 replace H := ifp H
 obtain ⟨c7, H⟩ := H
 have c7b0 := decide_eq_true c7
 clear c7
 replace H := ifp H
 obtain ⟨c8, H⟩ := H
 have c8b0 := decide_eq_true c8
 clear c8
 replace H := ifp H
 obtain ⟨c9, H⟩ := H
 have c9b0 := decide_eq_true c9
 clear c9
 obtain ⟨bq10, hbq10⟩ : ∃ b_ : Bool, b_ = (rdOf false (rd_L13 t493 x7_2) x5_1) := ⟨_, rfl⟩
 replace H : (if bq10 = true then (if x6_2.length < 17592186044416 then (r07_Reverse.l1 k2 l0 t493 x4_1 x5_1 (x6_2 ++ [x7_2]) (wrap64 (x7_2 + 1))) else (none)) else (r07_Reverse.l1 k2 l0 t493 x4_1 x5_1 x6_2 (wrap64 (x7_2 + 1)))) = some r := by rw [← hbq10] at H; exact H
 have Nbq10 := am hbq10
 clear hbq10
 by_cases c11 : bq10 = true
 rotate_left
 ·replace c11 := Bool.eq_false_iff.mpr c11
  subst c11
  rw [if_neg Bool.false_ne_true] at H
  have H' := am H
  clear H
  obtain ⟨Ao15, co15, eo15⟩ := Kd.S_slice HO_3.1
  subst eo15
  have p496 : 0 ≤ (x7_2 : Int) := dq
  have q496 : x7_2 < (t493.length : Int) := dq
  obtain ⟨ad496, A496_0, c496_0, e496, hx496_0, hl496_0, hi496_0⟩ := at_L13 (Kd.S_reads' HO_3.1).2.2 x7_2 p496 q496
  cases e496
  obtain ⟨ce496, hce496, hMe496, hcc496⟩ := Kd.S_get HO_3.1 [] x7_2 p496 (by first | exact q496 | exact dq | (have e_ := (Kd.S_reads' HO_3.1).1; omega))
  obtain ⟨ve496_0, rfl, ge496_0⟩ := hMe496
  have hv496_0 := hcc496 0 _ rfl
  rw [Nat.add_zero, show ((Kd.slice 4 Kd.bool)).sz = 1 from rfl, Nat.mul_one] at hv496_0
  replace hv496_0 := Option.some.inj (hv496_0.symm.trans hx496_0)
  rw [hv496_0] at ge496_0
  have HL496_0 := am (show Kd.R Kd.bool 4 _ _ _ _ (rd_L13 t493 x7_2) from ge496_0)
  clear hv496_0 ge496_0 hcc496 hce496
  have HR496_0 := am hi496_0
  have HC496_0 := am hl496_0
  clear hi496_0 hl496_0
  replace p496 := eq_true p496
  replace q496 := eq_true q496
  obtain ⟨p497, q497, ad497, e497, hx497_0⟩ := dbool (by repeat (first | (with_reducible exact HR496_0.1) | (with_reducible refine Kd.C_alloc ?_ _) | (with_reducible refine Kd.C_drewN ?_ _) | (with_reducible refine Kd.C_drew ?_) | exact HR496_0.1)) x5_1
  (try rw [← Nbq10.1] at hx497_0)
  cases e497
  go_wp2
  go_roundg k2
  case measure => have := HK1.1; have := HK2.1; omega
  case rel => exact ⟨(x6_2), (wrap64 (x7_2 + 1)), prs, H', ⟨by have := HK1.1; have := HK2.1; omega⟩, ⟨pks HO_3.1⟩, ⟨pks HO_4.1⟩, ⟨pkr HO_6.1⟩, ⟨pbg⟩⟩
 subst c11
 rw [if_pos rfl] at H
 replace H := ifp H
 obtain ⟨c12, H⟩ := H
 have LMc12 := am c12
 clear c12
 obtain ⟨y498, hy498⟩ : ∃ y_ : List Int, y_ = (x6_2 ++ [x7_2]) := ⟨_, rfl⟩
 replace H : (r07_Reverse.l1 k2 l0 t493 x4_1 x5_1 y498 (wrap64 (x7_2 + 1))) = some r := hrp hy498 H
 have Ny498 := am hy498
 clear hy498
 have H' := am H
 clear H
 obtain ⟨Ao13, co13, eo13⟩ := Kd.S_slice HO_3.1
 subst eo13
 have p496 : 0 ≤ (x7_2 : Int) := dq
 have q496 : x7_2 < (t493.length : Int) := dq
 obtain ⟨ad496, A496_0, c496_0, e496, hx496_0, hl496_0, hi496_0⟩ := at_L13 (Kd.S_reads' HO_3.1).2.2 x7_2 p496 q496
 cases e496
 obtain ⟨ce496, hce496, hMe496, hcc496⟩ := Kd.S_get HO_3.1 [] x7_2 p496 (by first | exact q496 | exact dq | (have e_ := (Kd.S_reads' HO_3.1).1; omega))
 obtain ⟨ve496_0, rfl, ge496_0⟩ := hMe496
 have hv496_0 := hcc496 0 _ rfl
 rw [Nat.add_zero, show ((Kd.slice 4 Kd.bool)).sz = 1 from rfl, Nat.mul_one] at hv496_0
 replace hv496_0 := Option.some.inj (hv496_0.symm.trans hx496_0)
 rw [hv496_0] at ge496_0
 have HL496_0 := am (show Kd.R Kd.bool 4 _ _ _ _ (rd_L13 t493 x7_2) from ge496_0)
 clear hv496_0 ge496_0 hcc496 hce496
 have HR496_0 := am hi496_0
 have HC496_0 := am hl496_0
 clear hi496_0 hl496_0
 replace p496 := eq_true p496
 replace q496 := eq_true q496
 obtain ⟨p497, q497, ad497, e497, hx497_0⟩ := dbool (by repeat (first | (with_reducible exact HR496_0.1) | (with_reducible refine Kd.C_alloc ?_ _) | (with_reducible refine Kd.C_drewN ?_ _) | (with_reducible refine Kd.C_drew ?_) | exact HR496_0.1)) x5_1
 (try rw [← Nbq10.1] at hx497_0)
 cases e497
 go_wp2_with (first | ((with_reducible refine gate_builtin (b := .append) (xs := #[.tmp 29, .tmp 31]) rfl ?_); at_builtin; refine Kd.R_append (Kd.int .i64) (w0 := w) w.heap.size rfl (.tmp 29) (.tmp 31) 39 3 (.int .i64 0) 8 rfl Try.underlying39 info3 rfl (by decide) (by omega) u6 x6_2 x7_2 [.int .i64 x7_2] (fun _ => True) (fun _ => False) rfl rfl ?aP (fun _ hk => hk.elim) ?aF ?aO ?aB ?aS ?aL ?_; (case aP => exact rfl); (case aB => exact pbl); (case aF => exact (fun _ _ => trivial)); (case aO => exact (pkr HO_6.1)); (case aS => exact (below_size pbl)); (case aL => have := LMc12.1; omega); intro v499 w14 ho hb hg hat; rw [← Ny498.1] at ho; have HO500 := am ho; replace HO_3 := am (Kd.S_over' (pks HO_3.1) (Kd.R_typed (pkr HO_6.1)) (by decide) hg); replace HO_4 := am (Kd.S_after (ok := (fun _ => True)) (by (with_reducible repeat (first | apply Kd.S_alloc | apply Kd.S_drewN | apply Kd.S_drew)); exact Kd.S_mono HO_4.1 (fun _ hk => ⟨trivial, hk⟩)) hg hat); replace HL496_0 := am (Kd.R_over' (pkr HL496_0.1) (Kd.R_typed (pkr HO_6.1)) (by decide) hg); replace HB := am hb; clear HO_6; clear ho hb hg hat))
 go_roundg k2
 case measure => have := HK1.1; have := HK2.1; omega
 case rel => exact ⟨(y498), (wrap64 (x7_2 + 1)), prs, H', ⟨by have := HK1.1; have := HK2.1; omega⟩, ⟨pks HO_3.1⟩, ⟨by (with_reducible repeat (first | apply Kd.S_alloc | apply Kd.S_drewN | apply Kd.S_drew)); exact Kd.S_mono HO_4.1 (fun _ hk => hk.2)⟩, ⟨pkr HO500.1⟩, ⟨pbg⟩⟩

/-! ### r07_Paths: function 80 -/
-- IMPORTS Derived.RegionTactic,Derived.BigRegion
mutual
def r07_Paths.l0 : Nat → List (List Int) → List (List Bool) → Int → Option ((List (List Bool)))
 | 0, _, _, _ => none
 | k + 1, x0, x3, x4 => if x4 < (x0.length : Int) then (r07_Paths.l1 k x0 x3 x4 0) else (some x3)
def r07_Paths.l1 : Nat → List (List Int) → List (List Bool) → Int → Int → Option ((List (List Bool)))
 | 0, _, _, _, _ => none
 | k + 1, x0, x3, x4, x5 => if x5 < (x0.length : Int) then (r07_Paths.l2 k x0 x3 x4 x5 0) else (r07_Paths.l0 k x0 x3 (wrap64 (x4 + 1)))
def r07_Paths.l2 : Nat → List (List Int) → List (List Bool) → Int → Int → Int → Option ((List (List Bool)))
 | 0, _, _, _, _, _ => none
 | k + 1, x0, x3, x4, x5, x6 => if x6 < (x0.length : Int) then (if 0 ≤ x5 then (if x5 < (x3.length : Int) then (if 0 ≤ x6 then (if x6 < ((rd_L13 x3 x5).length : Int) then (if rdOf false (rd_L13 x3 x5) x6 = true then (r07_Paths.l2 k x0 (x3.set (x5 : Int).toNat ((rd_L13 x3 x5).set (x6 : Int).toNat true)) x4 x5 (wrap64 (x6 + 1))) else (if 0 ≤ x4 then (if x4 < ((rd_L13 x3 x5).length : Int) then (if rdOf false (rd_L13 x3 x5) x4 = true then (if x4 < (x3.length : Int) then (if x6 < ((rd_L13 x3 x4).length : Int) then (r07_Paths.l2 k x0 (x3.set (x5 : Int).toNat ((rd_L13 x3 x5).set (x6 : Int).toNat (rdOf false (rd_L13 x3 x4) x6))) x4 x5 (wrap64 (x6 + 1))) else (none)) else (none)) else (r07_Paths.l2 k x0 (x3.set (x5 : Int).toNat ((rd_L13 x3 x5).set (x6 : Int).toNat false)) x4 x5 (wrap64 (x6 + 1)))) else (none)) else (none))) else (none)) else (none)) else (none)) else (none)) else (r07_Paths.l1 k x0 x3 x4 (wrap64 (x5 + 1)))
end
def r07_Paths.f (k : Nat) (l0 : List (List Int)) : Option ((List (List Bool))) := (r07_Table.f k l0).bind fun t227 => (r07_Paths.l0 k l0 t227 0)
theorem r07_Paths.mono_l : ∀ k, (∀ y0 y1 y2, LeO (r07_Paths.l0 k y0 y1 y2) (r07_Paths.l0 (k + 1) y0 y1 y2)) ∧ (∀ y0 y1 y2 y3, LeO (r07_Paths.l1 k y0 y1 y2 y3) (r07_Paths.l1 (k + 1) y0 y1 y2 y3)) ∧ (∀ y0 y1 y2 y3 y4, LeO (r07_Paths.l2 k y0 y1 y2 y3 y4) (r07_Paths.l2 (k + 1) y0 y1 y2 y3 y4))
 | 0 => ⟨fun _ _ _ r h => by simp [r07_Paths.l0] at h, fun _ _ _ _ r h => by simp [r07_Paths.l1] at h, fun _ _ _ _ _ r h => by simp [r07_Paths.l2] at h⟩
 | k + 1 => by
  obtain ⟨ih0, ih1, ih2⟩ := r07_Paths.mono_l k
  refine ⟨?_, ?_, ?_⟩
  ·intro y0 y1 y2
   unfold r07_Paths.l0
   repeat' first
   | (with_reducible exact ih0 _ _ _)
   | (with_reducible exact ih1 _ _ _ _)
   | (with_reducible exact ih2 _ _ _ _ _)
   | (with_reducible exact r07_Table.mono _ _)
   | (with_reducible exact LeO.refl _)
   | (with_reducible exact LeO.none _)
   | (with_reducible refine LeO.ite ?_ ?_)
   | (with_reducible refine LeO.bind ?_ (fun _ => ?_))
   | exact ih0 _ _ _
   | exact ih1 _ _ _ _
   | exact ih2 _ _ _ _ _
   | exact r07_Table.mono _ _
   | exact LeO.none _
   | refine LeO.ite ?_ ?_
   | refine LeO.bind ?_ (fun _ => ?_)
  ·intro y0 y1 y2 y3
   unfold r07_Paths.l1
   repeat' first
   | (with_reducible exact ih0 _ _ _)
   | (with_reducible exact ih1 _ _ _ _)
   | (with_reducible exact ih2 _ _ _ _ _)
   | (with_reducible exact r07_Table.mono _ _)
   | (with_reducible exact LeO.refl _)
   | (with_reducible exact LeO.none _)
   | (with_reducible refine LeO.ite ?_ ?_)
   | (with_reducible refine LeO.bind ?_ (fun _ => ?_))
   | exact ih0 _ _ _
   | exact ih1 _ _ _ _
   | exact ih2 _ _ _ _ _
   | exact r07_Table.mono _ _
   | exact LeO.none _
   | refine LeO.ite ?_ ?_
   | refine LeO.bind ?_ (fun _ => ?_)
  ·intro y0 y1 y2 y3 y4
   unfold r07_Paths.l2
   repeat' first
   | (with_reducible exact ih0 _ _ _)
   | (with_reducible exact ih1 _ _ _ _)
   | (with_reducible exact ih2 _ _ _ _ _)
   | (with_reducible exact r07_Table.mono _ _)
   | (with_reducible exact LeO.refl _)
   | (with_reducible exact LeO.none _)
   | (with_reducible refine LeO.ite ?_ ?_)
   | (with_reducible refine LeO.bind ?_ (fun _ => ?_))
   | exact ih0 _ _ _
   | exact ih1 _ _ _ _
   | exact ih2 _ _ _ _ _
   | exact r07_Table.mono _ _
   | exact LeO.none _
   | refine LeO.ite ?_ ?_
   | refine LeO.bind ?_ (fun _ => ?_)
theorem r07_Paths.mono : ∀ a0 k, LeO (r07_Paths.f k a0) (r07_Paths.f (k + 1) a0) := by
 intro a0 k
 obtain ⟨ih0, ih1, ih2⟩ := r07_Paths.mono_l k
 unfold r07_Paths.f
 repeat' first
   | (with_reducible exact ih0 _ _ _)
   | (with_reducible exact ih1 _ _ _ _)
   | (with_reducible exact ih2 _ _ _ _ _)
   | (with_reducible exact r07_Table.mono _ _)
   | (with_reducible exact LeO.refl _)
   | (with_reducible exact LeO.none _)
   | (with_reducible refine LeO.ite ?_ ?_)
   | (with_reducible refine LeO.bind ?_ (fun _ => ?_))
   | exact ih0 _ _ _
   | exact ih1 _ _ _ _
   | exact ih2 _ _ _ _ _
   | exact r07_Table.mono _ _
   | exact LeO.none _
   | refine LeO.ite ?_ ?_
   | refine LeO.bind ?_ (fun _ => ?_)
/-- The row that a vertex has in the table, and its cells. -/
theorem tab_row {w : World} {base n cap gt : Nat} {xs : List (List Bool)} (h : Kd.S (Kd.slice 4 Kd.bool) 63 w base (fun _ => True) (.slice (some ⟨gt, 0, none⟩) n cap) xs) (i : Int) (h0 : 0 ≤ i) (hi : i < n) :
  ∃ A c, w.cell? ⟨gt, i.toNat, none⟩ = some (.slice A (rd_L13 xs i).length c) ∧ (rd_L13 xs i).length ≤ c ∧
   ∀ j : Int, 0 ≤ j → j < (rd_L13 xs i).length → ∃ g, A = some ⟨g, 0, none⟩ ∧ base ≤ g ∧ w.cell? ⟨g, j.toNat, none⟩ = some (.bool (rdOf false (rd_L13 xs i) j)) ∧ w.frozen? ⟨g, j.toNat, none⟩ = false ∧
    ∀ x, Kd.S (Kd.slice 4 Kd.bool) 63 (w.setCell ⟨g, j.toNat, none⟩ (.bool x)) base (fun _ => True) (.slice (some ⟨gt, 0, none⟩) n cap) (xs.set i.toNat ((rd_L13 xs i).set j.toNat x)) := S_row h false i h0 hi

set_option maxHeartbeats 4000000 in
set_option maxRecDepth 100000 in
theorem r07_Paths.calls (k : Nat) (A0 : Option Addr) (c0 : Nat) (l0 : List (List Int)) (r : List (List Bool)) (w : World) (hr0 : Kd.C (Kd.slice 3 (Kd.int .i64)) w A0 l0.length l0) (hc0 : l0.length ≤ c0) (h : r07_Paths.f k l0 = some r) :
  Calls Try.prog 80 #[.slice A0 l0.length c0] w fun e w' => ∃ v0_ : Value, e = .returned (v0_) ∧ Kd.S (Kd.slice 4 Kd.bool) 63 w' w.heap.size (fun _ => True) v0_ r ∧ Below w.heap.size w w' := by
 have HR0 := Aside0.mk hr0
 have HC0 := Aside0.mk hc0
 clear hr0 hc0
 unfold r07_Paths.f at h
 obtain ⟨t, ht, h⟩ := Option.bind_eq_some_iff.mp h
 have HT := Aside0.mk ht
 have H := Aside0.mk h
 clear ht h
 go_enter Try.func80, Try.ntmps80
 go_wp2_with (first | (go_at_call 81; refine (r07_Table.calls k _ _ _ _ _ HR0.out HC0.out HT.out).mono ?_; rintro e w1 ⟨vt, rfl, ho, hb⟩; have HO := Aside0.mk ho; have HB := Aside0.mk hb; clear ho hb))
 go_loopg [4] k (fun kq v4 w' => ∃ (x3 : List (List Bool)) (x4 : Int), v4 = .int .i64 x4 ∧ Aside0 (r07_Paths.l0 kq l0 x3 x4 = some r) ∧ Aside0 (kq ≤ k) ∧ Aside0 (Kd.S (Kd.slice 4 Kd.bool) 63 w' w.heap.size (fun _ => True) vt x3) ∧ Aside0 (Below w.heap.size w w'))
 case atStart => exact ⟨_, 0, rfl, H, ⟨Nat.le_refl _⟩, HO, HB⟩
 case round =>
  clear H HO HB
  obtain ⟨x3, x4, rfl, HA, HK1, HO, HB⟩ := hrel
  cases gk with
  | zero => exact absurd HA.out (by simp [r07_Paths.l0])
  | succ k1 =>
  have H := HA.out
  clear HA
  simp only [r07_Paths.l0] at H
  by_cases c1 : x4 < (l0.length : Int)
  case neg =>
   rw [if_neg c1] at H
   have c1b : decide (x4 < (l0.length : Int)) = false := decide_eq_false c1
   obtain rfl := Option.some.inj H
   clear H
   obtain ⟨A5, k5, rfl⟩ := Kd.S_slice HO.out
   go_wp2
   go_ret
   exact ⟨_, rfl, HO.out, HB.out⟩
  rw [if_pos c1] at H
  have c1b : decide (x4 < (l0.length : Int)) = true := decide_eq_true c1
  have H' := Aside0.mk H
  clear H
  go_wp2
  go_loopg [5] k1 (fun kq v5 w' => ∃ (x3 : List (List Bool)) (x5 : Int), v5 = .int .i64 x5 ∧ Aside0 (r07_Paths.l1 kq l0 x3 x4 x5 = some r) ∧ Aside0 (kq ≤ k1) ∧ Aside0 (Kd.S (Kd.slice 4 Kd.bool) 63 w' w.heap.size (fun _ => True) vt x3) ∧ Aside0 (Below w.heap.size w w'))
  case atStart => exact ⟨_, 0, rfl, H', ⟨Nat.le_refl _⟩, HO, HB⟩
  case round =>
   clear H' HO HB
   obtain ⟨x3, x5, rfl, HA, HK2, HO, HB⟩ := hrel
   cases gk with
   | zero => exact absurd HA.out (by simp [r07_Paths.l1])
   | succ k2 =>
   have H := HA.out
   clear HA
   simp only [r07_Paths.l1] at H
   by_cases c2 : x5 < (l0.length : Int)
   case neg =>
    rw [if_neg c2] at H
    have c2b : decide (x5 < (l0.length : Int)) = false := decide_eq_false c2
    have H' := Aside0.mk H
    clear H
    go_wp2
    go_roundg k2
    case measure => have := HK1.out; have := HK2.out; omega
    case rel => exact ⟨_, _, rfl, H', ⟨by have := HK1.out; have := HK2.out; omega⟩, HO, HB⟩
   rw [if_pos c2] at H
   have c2b : decide (x5 < (l0.length : Int)) = true := decide_eq_true c2
   have H' := Aside0.mk H
   clear H
   go_wp2
   go_loopg [6] k2 (fun kq v6 w' => ∃ (x3 : List (List Bool)) (x6 : Int), v6 = .int .i64 x6 ∧ Aside0 (r07_Paths.l2 kq l0 x3 x4 x5 x6 = some r) ∧ Aside0 (kq ≤ k2) ∧ Aside0 (Kd.S (Kd.slice 4 Kd.bool) 63 w' w.heap.size (fun _ => True) vt x3) ∧ Aside0 (Below w.heap.size w w'))
   case atStart => exact ⟨_, 0, rfl, H', ⟨Nat.le_refl _⟩, HO, HB⟩
   case round =>
    clear H' HO HB
    obtain ⟨x3, x6, rfl, HA, HK3, HO, HB⟩ := hrel
    cases gk with
    | zero => exact absurd HA.out (by simp [r07_Paths.l2])
    | succ k3 =>
    have H := HA.out
    clear HA
    simp only [r07_Paths.l2] at H
    by_cases c3 : x6 < (l0.length : Int)
    case neg =>
     rw [if_neg c3] at H
     have c3b : decide (x6 < (l0.length : Int)) = false := decide_eq_false c3
     have H' := Aside0.mk H
     clear H
     go_wp2
     go_roundg k3
     case measure => have := HK1.out; have := HK2.out; have := HK3.out; omega
     case rel => exact ⟨_, _, rfl, H', ⟨by have := HK3.out; have := HK2.out; omega⟩, HO, HB⟩
    rw [if_pos c3] at H
    have c3b : decide (x6 < (l0.length : Int)) = true := decide_eq_true c3
    by_cases d1 : 0 ≤ x5
    case neg => rw [if_neg d1] at H; cases H
    rw [if_pos d1] at H
    by_cases d2 : x5 < (x3.length : Int)
    case neg => rw [if_neg d2] at H; cases H
    rw [if_pos d2] at H
    by_cases d3 : 0 ≤ x6
    case neg => rw [if_neg d3] at H; cases H
    rw [if_pos d3] at H
    by_cases d4 : x6 < ((rd_L13 x3 x5).length : Int)
    case neg => rw [if_neg d4] at H; cases H
    rw [if_pos d4] at H
    obtain ⟨gt, ct, rfl, _, _, _⟩ := Kd.S_form HO.out (by omega)
    obtain ⟨A1, k1', hx1, _, hrow⟩ := tab_row HO.out x5 d1 d2
    obtain ⟨gr, rfl, hgr, hx2, hf2, hput⟩ := hrow x6 d3 d4
    have hput' := Aside0.mk hput
    by_cases e1 : rdOf false (rd_L13 x3 x5) x6 = true
    ·rw [if_pos e1] at H
     rw [e1] at hx2
     have H' := Aside0.mk H
     clear H hput hrow e1
     go_wp2
     go_region
     go_wp2
     go_roundg k3
     case measure => have := HK1.out; have := HK2.out; have := HK3.out; omega
     case rel => exact ⟨_, _, rfl, H', ⟨by have := HK3.out; omega⟩, ⟨Kd.S_drew (hput'.out true)⟩, ⟨below_drew (below_set HB.out hgr)⟩⟩
    ·rw [if_neg e1] at H
     have e1' : rdOf false (rd_L13 x3 x5) x6 = false := Bool.eq_false_iff.mpr e1
     rw [e1'] at hx2
     by_cases d5 : 0 ≤ x4
     case neg => rw [if_neg d5] at H; cases H
     rw [if_pos d5] at H
     by_cases d6 : x4 < ((rd_L13 x3 x5).length : Int)
     case neg => rw [if_neg d6] at H; cases H
     rw [if_pos d6] at H
     obtain ⟨gr2, eg, _, hx3, hf3, _⟩ := hrow x4 d5 d6
     injection eg with eg
     injection eg with eg _ _
     subst eg
     by_cases e2 : rdOf false (rd_L13 x3 x5) x4 = true
     ·rw [if_pos e2] at H
      rw [e2] at hx3
      by_cases d7 : x4 < (x3.length : Int)
      case neg => rw [if_neg d7] at H; cases H
      rw [if_pos d7] at H
      by_cases d8 : x6 < ((rd_L13 x3 x4).length : Int)
      case neg => rw [if_neg d8] at H; cases H
      rw [if_pos d8] at H
      obtain ⟨A3, k3', hx4, _, hrow2⟩ := tab_row HO.out x4 d5 d7
      obtain ⟨gq, rfl, _, hx5, hf5, _⟩ := hrow2 x6 d3 d8
      obtain ⟨b3, eb3⟩ : ∃ b3, b3 = rdOf false (rd_L13 x3 x4) x6 := ⟨_, rfl⟩
      rw [← eb3] at H hx5
      have H' := Aside0.mk H
      clear H hput hrow hrow2 e1 e1' e2 eb3
      cases b3 with
      | true =>
       go_wp2
       go_region
       go_wp2
       go_roundg k3
       case measure => have := HK1.out; have := HK2.out; have := HK3.out; omega
       case rel => exact ⟨_, _, rfl, H', ⟨by have := HK3.out; omega⟩, ⟨Kd.S_drew (hput'.out true)⟩, ⟨below_drew (below_set HB.out hgr)⟩⟩
      | false =>
       go_wp2
       go_region
       go_wp2
       go_roundg k3
       case measure => have := HK1.out; have := HK2.out; have := HK3.out; omega
       case rel => exact ⟨_, _, rfl, H', ⟨by have := HK3.out; omega⟩, ⟨Kd.S_drew (hput'.out false)⟩, ⟨below_drew (below_set HB.out hgr)⟩⟩
     ·rw [if_neg e2] at H
      have e2' : rdOf false (rd_L13 x3 x5) x4 = false := Bool.eq_false_iff.mpr e2
      rw [e2'] at hx3
      have H' := Aside0.mk H
      clear H hput hrow e1 e1' e2 e2'
      go_wp2
      go_region
      go_wp2
      go_roundg k3
      case measure => have := HK1.out; have := HK2.out; have := HK3.out; omega
      case rel => exact ⟨_, _, rfl, H', ⟨by have := HK3.out; omega⟩, ⟨Kd.S_drew (hput'.out false)⟩, ⟨below_drew (below_set HB.out hgr)⟩⟩

/-! ### r07_Reach: function 69 -/
mutual
def r07_Reach.l0 : Nat → List (List Int) → List Int → List (List Bool) → List Bool → Int → Option (List Bool)
 | 0, _, _, _, _, _ => none
 | k + 1, x0, x1, x5, x6, x7 => if x7 < (x1.length : Int) then (if 0 ≤ x7 then (if (rd x1 x7) < 0 then (r07_Reach.j1 k x0 x1 x5 x6 x7 true) else (r07_Reach.j1 k x0 x1 x5 x6 x7 (decide ((rd x1 x7) ≥ (x0.length : Int))))) else (none)) else (some x6)
def r07_Reach.j1 : Nat → List (List Int) → List Int → List (List Bool) → List Bool → Int → Bool → Option (List Bool)
 | 0, _, _, _, _, _, _ => none
 | k + 1, x0, x1, x5, x6, x7, x33 => if x33 = true then (r07_Reach.l0 k x0 x1 x5 x6 (wrap64 (x7 + 1))) else (if 0 ≤ x7 then (if x7 < (x1.length : Int) then (if 0 ≤ (rd x1 x7) then (if (rd x1 x7) < (x6.length : Int) then (r07_Reach.l1 k x0 x1 x5 (x6.set ((rd x1 x7) : Int).toNat true) x7 0) else (none)) else (none)) else (none)) else (none))
def r07_Reach.l1 : Nat → List (List Int) → List Int → List (List Bool) → List Bool → Int → Int → Option (List Bool)
 | 0, _, _, _, _, _, _ => none
 | k + 1, x0, x1, x5, x6, x7, x8 => if x8 < (x0.length : Int) then (if 0 ≤ x8 then (if x8 < (x6.length : Int) then (if rdOf false x6 x8 = true then (r07_Reach.l1 k x0 x1 x5 (x6.set (x8 : Int).toNat true) x7 (wrap64 (x8 + 1))) else (if 0 ≤ x7 then (if x7 < (x1.length : Int) then (if 0 ≤ (rd x1 x7) then (if (rd x1 x7) < (x5.length : Int) then (if x8 < ((rd_L13 x5 (rd x1 x7)).length : Int) then (r07_Reach.l1 k x0 x1 x5 (x6.set (x8 : Int).toNat (rdOf false (rd_L13 x5 (rd x1 x7)) x8)) x7 (wrap64 (x8 + 1))) else (none)) else (none)) else (none)) else (none)) else (none))) else (none)) else (none)) else (r07_Reach.l0 k x0 x1 x5 x6 (wrap64 (x7 + 1)))
end
def r07_Reach.f (k : Nat) (l0 : List (List Int)) (l1 : List Int) : Option (List Bool) := (r07_Paths.f k l0).bind fun t477 => (if 0 ≤ (l0.length : Int) then (if ((l0.length : Int) : Int).toNat ≤ 281474976710656 then (r07_Reach.l0 k l0 l1 t477 (List.replicate ((l0.length : Int) : Int).toNat false) 0) else (none)) else (none))
theorem r07_Reach.mono_l : ∀ k, M5 r07_Reach.l0 k ∧ M6 r07_Reach.j1 k ∧ M6 r07_Reach.l1 k
 | 0 => ⟨fun _ _ _ _ _ r h => by simp [r07_Reach.l0] at h, fun _ _ _ _ _ _ r h => by simp [r07_Reach.j1] at h, fun _ _ _ _ _ _ r h => by simp [r07_Reach.l1] at h⟩
 | k + 1 => by
  obtain ⟨ih0, ih1, ih2⟩ := r07_Reach.mono_l k
  refine ⟨?_, ?_, ?_⟩ <;> dsimp only [M5, M6] <;> intros <;> (first | unfold r07_Reach.l0 | unfold r07_Reach.j1 | unfold r07_Reach.l1) <;> repeat' first | (with_reducible first | apply ih0 | apply ih1 | apply ih2 | apply r07_Paths.mono | apply lr | apply ln | apply li | refine lb ?_ fun _ => ?_)
theorem r07_Reach.mono : ∀ a0 a1 k, LeO (r07_Reach.f k a0 a1) (r07_Reach.f (k + 1) a0 a1) := by
 intro a0 a1 k
 obtain ⟨ih0, ih1, ih2⟩ := r07_Reach.mono_l k
 unfold r07_Reach.f
 repeat' first | (with_reducible first | apply ih0 | apply ih1 | apply ih2 | apply r07_Paths.mono | apply lr | apply ln | apply li | refine lb ?_ fun _ => ?_)
set_option maxHeartbeats 8000000 in
set_option maxRecDepth 100000 in
theorem r07_Reach.calls (k : Nat) (A0 : Option Addr) (c0 : Nat) (l0 : List (List Int)) (A1 : Option Addr) (c1 : Nat) (l1 : List Int) (r : List Bool) (w : World) (hr0 : Kd.C (Kd.slice 3 (Kd.int .i64)) w A0 l0.length l0) (hc0 : l0.length ≤ c0) (hr1 : Kd.C (Kd.int .i64) w A1 l1.length l1) (hc1 : l1.length ≤ c1) (h : r07_Reach.f k l0 l1 = some r) :
  Calls Try.prog 69 #[.slice A0 l0.length c0, .slice A1 l1.length c1] w fun e w' => ∃ v0_ : Value, e = .returned (v0_) ∧ Kd.R Kd.bool 4 w' w.heap.size (fun _ => True) v0_ r ∧ Below w.heap.size w w' := by
 have HR0 := am hr0
 have HC0 := am hc0
 clear hr0 hc0
 have HR1 := am hr1
 have HC1 := am hc1
 clear hr1 hc1
 have HB := am (Below.refl w.heap.size w)
 have H : ((r07_Paths.f k l0).bind fun t477 => (if 0 ≤ (l0.length : Int) then (if ((l0.length : Int) : Int).toNat ≤ 281474976710656 then (r07_Reach.l0 k l0 l1 t477 (List.replicate ((l0.length : Int) : Int).toNat false) 0) else (none)) else (none))) = some r := h
 clear h
 replace H := bnd H
 obtain ⟨t477, A3, H⟩ := H
 (try dsimp only at H)
 replace H := ifp H
 obtain ⟨c4, H⟩ := H
 have c4b0 := eq_true c4
 have c4b1 : decide (0 ≤ (l0.length : Int)) = true := decide_eq_true c4
 clear c4
 replace H := ifp H
 obtain ⟨c5, H⟩ := H
 have c5b0 := eq_true c5
 have c5b1 : decide (((l0.length : Int) : Int).toNat ≤ 281474976710656) = true := decide_eq_true c5
 clear c5
 obtain ⟨y480, hy480⟩ : ∃ y_ : List Bool, y_ = (List.replicate ((l0.length : Int) : Int).toNat false) := ⟨_, rfl⟩
 replace H : (r07_Reach.l0 k l0 l1 t477 y480 0) = some r := hrp hy480 H
 have Ny480 := am hy480
 clear hy480
 have H' := am H
 clear H
 go_enter Try.func69, Try.ntmps69
 go_wp2_with (first | ((with_reducible refine gate_callee (f := 80) rfl ?_); refine gC 10 Try.func80 _ (r07_Paths.calls k _ _ l0 t477 _ (csd HR0.1) HC0.1 A3.1) ?_; rintro e w6 ⟨v478, rfl, ho0, hb⟩; refine ⟨_, rfl, ?_⟩; have HO479 := am (Kd.S_lower ho0 (below_size pbl)); replace HB := bsl hb; (try clear hb); (try clear ho0)) | ((with_reducible refine gate_dst (N := 13) rfl ?_); (try (refine gate_guard (by rfl) ?_; dsimp only)); refine Kd.R_make Kd.bool _ 4 rfl (N := 13) rfl 63 _ _ rfl (l0.length : Int) rfl rfl Try.underlying63 (.bool false) 1 info4 rfl (by decide) (by omega) false (ok := fun _ => True) (okp := fun _ => True) rfl (fun _ hk => hk) trivial (dq) (Nat.le_trans (Nat.mul_le_mul_right _ (dq : (l0.length : Int).toNat ≤ 281474976710656)) (by omega)) (Below.refl _ _) (Nat.le_refl _) ?_; intro v481 w7 ho8 hb hg_ hnew_; clear hg_ hnew_; (first | rw [← Ny480.1] at ho8 | (simp only [Int.reduceToNat] at ho8; rw [← Ny480.1] at ho8)); have HO482 := am (Kd.R_lower ho8 (below_size pbl)); replace HO479 := am (Kd.S_elder' (pks HO479.1) (Kd.R_base ho8) hb); replace HB := bsl hb; clear hb ho8))
 go_loopg [7] k (fun kq v7 w' => ∃ (x6_1 : List Bool) (x7_1 : Int), v7 = .int .i64 x7_1 ∧ Aside0 (r07_Reach.l0 kq l0 l1 t477 x6_1 x7_1 = some r) ∧ Aside0 (kq ≤ k) ∧ Aside0 (Kd.S (Kd.slice 4 Kd.bool) 63 w' w.heap.size (fun k_ => some k_ ≠ (v481 : Value).ownBlock) v478 t477) ∧ Aside0 (Kd.R Kd.bool 4 w' w.heap.size (fun _ => True) v481 x6_1) ∧ Aside0 (Below w.heap.size w w'))
 case atStart => exact ⟨(y480), (0), prs, H', ⟨Nat.le_refl _⟩, ⟨by (with_reducible repeat (first | apply Kd.S_alloc | apply Kd.S_drewN | apply Kd.S_drew)); exact Kd.S_mono HO479.1 (fun _ hk => hk.2)⟩, ⟨pkr HO482.1⟩, ⟨pbg⟩⟩
 clear H'
 try clear c1 c4 c4b0 c4b1 c5 c5b0 c5b1
 obtain ⟨x6_1, x7_1, rfl, HA, HK1, HO_5, HO_6, HB⟩ := hrel
 obtain _ | k1 := gk
 ·exact absurd HA.1 (by simp [r07_Reach.l0])
 have H := HA.1
 clear HA
 simp only [r07_Reach.l0] at H
 by_cases c9 : x7_1 < (l1.length : Int)
 rotate_left
 ·rw [if_neg c9] at H
  have c9b0 : decide (x7_1 < (l1.length : Int)) = false := decide_eq_false c9
  clear c9
  obtain rfl := Option.some.inj H
  go_wp2
  go_ret
  exact ⟨_, per, by (with_reducible repeat (first | apply Kd.R_alloc | apply Kd.R_drewN | apply Kd.R_drew)); exact HO_6.1, pbg⟩
 rw [if_pos c9] at H
 have c9b0 : decide (x7_1 < (l1.length : Int)) = true := decide_eq_true c9
 clear c9
 have HC10 := am H
 clear H
 go_upto_region 6 with (fail)
 go_cut [33] (fun v33 wc => ∃ (kq : Nat) (x33_9 : Bool), v33 = .bool x33_9 ∧ Aside0 (r07_Reach.j1 kq l0 l1 t477 x6_1 x7_1 x33_9 = some r) ∧ Aside0 (kq ≤ k1) ∧ Aside0 (Kd.S (Kd.slice 4 Kd.bool) 63 wc w.heap.size (fun k_ => some k_ ≠ (v481 : Value).ownBlock) v478 t477) ∧ Aside0 (Kd.R Kd.bool 4 wc w.heap.size (fun _ => True) v481 x6_1) ∧ Aside0 (Below w.heap.size w wc))
 case first =>
  have H := HC10.1
  clear HC10
  replace H := ifp H
  obtain ⟨c11, H⟩ := H
  have c11b0 := decide_eq_true c11
  clear c11
  (first | rw [c11b0] | (simp only [i64_w, i32_w]; rw [c11b0]) | skip)
  by_cases c12 : (rd l1 x7_1) < 0
  ·rw [if_pos c12] at H
   have c12b0 : decide ((rd l1 x7_1) < 0) = true := decide_eq_true c12
   clear c12
   have H' := am H
   clear H
   obtain ⟨p483, q483, ad483, e483, hx483_0⟩ := bint HR1.1 HB.1 x7_1
   cases e483
   go_wp2
   go_meet
   case rel => exact ⟨_, (true), prs, H', ⟨by have := HK1.1; first | omega | exact Nat.le_refl _⟩, ⟨pks HO_5.1⟩, ⟨pkr HO_6.1⟩, ⟨pbg⟩⟩
  rw [if_neg c12] at H
  have c12b0 : decide ((rd l1 x7_1) < 0) = false := decide_eq_false c12
  clear c12
  have H' := am H
  clear H
  obtain ⟨p483, q483, ad483, e483, hx483_0⟩ := bint HR1.1 HB.1 x7_1
  cases e483
  obtain ⟨p484, q484, ad484, e484, hx484_0⟩ := bint HR1.1 HB.1 x7_1
  obtain rfl : ad483 = ad484 := (by injection e484)
  go_wp2
  go_meet
  case rel => exact ⟨_, (decide ((rd l1 x7_1) ≥ (l0.length : Int))), prs, H', ⟨by have := HK1.1; first | omega | exact Nat.le_refl _⟩, ⟨pks HO_5.1⟩, ⟨pkr HO_6.1⟩, ⟨pbg⟩⟩
 clear HC10
 try clear c1 c4 c4b0 c4b1 c5 c5b0 c5b1 c9 c9b0 c11 c11b0 c12 c12b0 hx483_0 hx484_0 p483 p484 q483 q484
 obtain ⟨kq, x33_9, rfl, HA, HJ9, HO_5, HO_6, HB⟩ := hcut
 obtain _ | kj9 := kq
 ·exact absurd HA.1 (by simp [r07_Reach.j1])
 have H := HA.1
 clear HA
 simp only [r07_Reach.j1] at H
 by_cases c13 : x33_9 = true
 ·subst c13
  rw [if_pos rfl] at H
  have H' := am H
  clear H
  go_wp2
  go_roundg kj9
  case measure => have := HK1.1; have := HJ9.1; omega
  case rel => exact ⟨(x6_1), (wrap64 (x7_1 + 1)), prs, H', ⟨by have := HK1.1; have := HJ9.1; omega⟩, ⟨pks HO_5.1⟩, ⟨pkr HO_6.1⟩, ⟨pbg⟩⟩
 replace c13 := Bool.eq_false_iff.mpr c13
 subst c13
 rw [if_neg Bool.false_ne_true] at H
 replace H := ifp H
 obtain ⟨c14, H⟩ := H
 have c14b0 := decide_eq_true c14
 clear c14
 replace H := ifp H
 obtain ⟨c15, H⟩ := H
 have c15b0 := decide_eq_true c15
 clear c15
 replace H := ifp H
 obtain ⟨c16, H⟩ := H
 have c16b0 := decide_eq_true c16
 clear c16
 replace H := ifp H
 obtain ⟨c17, H⟩ := H
 have c17b0 := decide_eq_true c17
 clear c17
 obtain ⟨y486, hy486⟩ : ∃ y_ : List Bool, y_ = (x6_1.set ((rd l1 x7_1) : Int).toNat true) := ⟨_, rfl⟩
 replace H : (r07_Reach.l1 kj9 l0 l1 t477 y486 x7_1 0) = some r := hrp hy486 H
 have Ny486 := am hy486
 clear hy486
 have H' := am H
 clear H
 obtain ⟨p485, q485, ad485, e485, hx485_0⟩ := bint HR1.1 HB.1 x7_1
 cases e485
 have p18 : 0 ≤ ((rd l1 x7_1) : Int) := dq
 have q18 : ((rd l1 x7_1) : Int) < ((x6_1.length : Int) : Int) := dq
 obtain ⟨go18, co18, eo18, gb18, gl18, cl18, HG18⟩ := Kd.R_form HO_6.1 (by omega)
 (first | cases eo18 | (injection eo18 with ea_ en_ ec_; (first | subst ea_ | (injection ea_ with ea_; subst ea_)); subst ec_; clear en_))
 have GB18 := am gb18
 have GG18 := am HG18
 clear gb18 gl18 HG18
 obtain ⟨hx18_0, hf18_0⟩ := Kd.R_celln false HO_6.1 ((rd l1 x7_1) : Int) p18 q18
 replace p18 := eq_true p18
 replace q18 := eq_true q18
 have HP19 := Kd.R_putg HO_6.1 ((rd l1 x7_1) : Int) true
 go_wp2_with (first | ((with_reducible refine gate_store (t := 4) (p := 39) rfl ?_); refine store_event (t := 4) (p := 39) (v := ?vo_w20) (w1 := (wc.setCell ⟨go18, ((rd l1 x7_1) : Int).toNat, none⟩ (.bool true))) ?hg ?ho ?hn ?hr ?_; (case ho => rfl); (case hg => rfl); (case hn => rfl); (case hr => first | (go_simp; done) | (go_simp; rfl)); intro w20 hw; have hg : wc.grownBy w20 (some go18) := (by rw [hw]; exact HP19.2); have hp_ : Kd.R Kd.bool 4 w20 w.heap.size (fun _ => True) (.slice (some ⟨go18, 0, none⟩) x6_1.length co18) y486 := (by rw [hw, Ny486.1]; exact HP19.1); clear HP19; replace HO_5 := am (Kd.S_after (v := (.slice (some ⟨go18, 0, none⟩) x6_1.length co18)) (v1 := (.slice (some ⟨go18, 0, none⟩) x6_1.length co18)) (ok := (fun _ => True)) (by (with_reducible repeat (first | apply Kd.S_alloc | apply Kd.S_drewN | apply Kd.S_drew)); exact Kd.S_mono HO_5.1 (fun _ hk => ⟨trivial, hk⟩)) hg (.inl rfl)); replace HO_6 := am hp_; replace HB := am ((by rw [hw]; exact below_set (HB.1) GB18.1 : Below w.heap.size w w20)); clear hg hw hp_))
 go_loopg [8] kj9 (fun kq v8 w' => ∃ (x6_3 : List Bool) (x8_3 : Int), v8 = .int .i64 x8_3 ∧ Aside0 (r07_Reach.l1 kq l0 l1 t477 x6_3 x7_1 x8_3 = some r) ∧ Aside0 (kq ≤ kj9) ∧ Aside0 (Kd.S (Kd.slice 4 Kd.bool) 63 w' w.heap.size (fun k_ => some k_ ≠ ((.slice (some ⟨go18, 0, none⟩) x6_1.length co18) : Value).ownBlock) v478 t477) ∧ Aside0 (Kd.R Kd.bool 4 w' w.heap.size (fun _ => True) (.slice (some ⟨go18, 0, none⟩) x6_1.length co18) x6_3) ∧ Aside0 (Below w.heap.size w w'))
 case atStart => exact ⟨(y486), (0), prs, H', ⟨Nat.le_refl _⟩, ⟨by (with_reducible repeat (first | apply Kd.S_alloc | apply Kd.S_drewN | apply Kd.S_drew)); exact Kd.S_mono HO_5.1 (fun _ hk => hk.2)⟩, ⟨pkr HO_6.1⟩, ⟨pbg⟩⟩
 clear H'
 try clear c1 c4 c4b0 c4b1 c5 c5b0 c5b1 c9 c9b0 c11 c11b0 c12 c12b0 c13 c14 c14b0 c15 c15b0 c16 c16b0 c17 c17b0 p18 q18 hx18_0 hx483_0 hx484_0 hx485_0 p18 p483 p484 p485 q18 q483 q484 q485
 obtain ⟨x6_3, x8_3, rfl, HA, HK3, HO_5, HO_6, HB⟩ := hrel
 have hl6_3 := (Kd.R_reads' HO_6.1).1
 rw [hl6_3] at HO_6
 (try simp only [hl6_3])
 (try simp only [hl6_3] at HO_5)
 obtain _ | k3 := gk
 ·exact absurd HA.1 (by simp [r07_Reach.l1])
 have H := HA.1
 clear HA
 simp only [r07_Reach.l1] at H
 by_cases c21 : x8_3 < (l0.length : Int)
 rotate_left
 ·rw [if_neg c21] at H
  have c21b0 : decide (x8_3 < (l0.length : Int)) = false := decide_eq_false c21
  (try have c21b9_0 : decide (x8_3 < (x6_3.length : Int)) = false := (by rw [← hl6_3]; exact c21b0))
  clear c21
  have H' := am H
  clear H
  go_wp2
  (try simp only [← hl6_3])
  go_roundg k3
  case measure => have := HK1.1; have := HJ9.1; have := HK3.1; omega
  case rel => exact ⟨(x6_3), (wrap64 (x7_1 + 1)), prs, H', ⟨by have := HK1.1; have := HJ9.1; have := HK3.1; omega⟩, ⟨by (try simp only [hl6_3]); exact pks HO_5.1⟩, ⟨by (try simp only [hl6_3]); exact pkr HO_6.1⟩, ⟨pbg⟩⟩
 rw [if_pos c21] at H
 have c21b0 : decide (x8_3 < (l0.length : Int)) = true := decide_eq_true c21
 (try have c21b9_0 : decide (x8_3 < (x6_3.length : Int)) = true := (by rw [← hl6_3]; exact c21b0))
 clear c21
 replace H := ifp H
 obtain ⟨c22, H⟩ := H
 have c22b0 := decide_eq_true c22
 clear c22
 replace H := ifp H
 obtain ⟨c23, H⟩ := H
 have c23b0 := decide_eq_true c23
 clear c23
 obtain ⟨bq24, hbq24⟩ : ∃ b_ : Bool, b_ = (rdOf false x6_3 x8_3) := ⟨_, rfl⟩
 replace H : (if bq24 = true then (r07_Reach.l1 k3 l0 l1 t477 (x6_3.set (x8_3 : Int).toNat true) x7_1 (wrap64 (x8_3 + 1))) else (if 0 ≤ x7_1 then (if x7_1 < (l1.length : Int) then (if 0 ≤ (rd l1 x7_1) then (if (rd l1 x7_1) < (t477.length : Int) then (if x8_3 < ((rd_L13 t477 (rd l1 x7_1)).length : Int) then (r07_Reach.l1 k3 l0 l1 t477 (x6_3.set (x8_3 : Int).toNat (rdOf false (rd_L13 t477 (rd l1 x7_1)) x8_3)) x7_1 (wrap64 (x8_3 + 1))) else (none)) else (none)) else (none)) else (none)) else (none))) = some r := by rw [← hbq24] at H; exact H
 have Nbq24 := am hbq24
 clear hbq24
 by_cases c25 : bq24 = true
 ·subst c25
  rw [if_pos rfl] at H
  obtain ⟨y488, hy488⟩ : ∃ y_ : List Bool, y_ = (x6_3.set (x8_3 : Int).toNat true) := ⟨_, rfl⟩
  replace H : (r07_Reach.l1 k3 l0 l1 t477 y488 x7_1 (wrap64 (x8_3 + 1))) = some r := hrp hy488 H
  have Ny488 := am hy488
  clear hy488
  have H' := am H
  clear H
  have p487 : 0 ≤ (x8_3 : Int) := dq
  have q487 : x8_3 < (x6_3.length : Int) := dq
  obtain ⟨ad487, e487, hx487_0⟩ := Kd.at_bool (Kd.R_reads' HO_6.1).2.2 x8_3 p487 q487
  (try rw [← Nbq24.1] at hx487_0)
  obtain rfl : (⟨go18, 0, none⟩ : Addr) = ad487 := (by injection e487)
  (first | simp only [add_plain] at hx487_0 | simp only [add_at] at hx487_0 | simp only [Addr.add, Nat.zero_add] at hx487_0 | skip)
  replace p487 := eq_true p487
  replace q487 := eq_true q487
  have p26 : 0 ≤ (x8_3 : Int) := dq
  have q26 : (x8_3 : Int) < ((x6_3.length : Int) : Int) := dq
  obtain ⟨hx26_0, hf26_0⟩ := Kd.R_celln false HO_6.1 (x8_3 : Int) p26 q26
  replace p26 := eq_true p26
  replace q26 := eq_true q26
  have HP27 := Kd.R_putg HO_6.1 (x8_3 : Int) true
  go_wp2_with (first | ((with_reducible refine gate_store (t := 4) (p := 64) rfl ?_); refine store_event (t := 4) (p := 64) (v := ?vo_w28) (w1 := (wr.setCell ⟨go18, (x8_3 : Int).toNat, none⟩ (.bool true))) ?hg ?ho ?hn ?hr ?_; (case ho => rfl); (case hg => rfl); (case hn => rfl); (case hr => first | (go_simp; done) | (go_simp; rfl)); intro w28 hw; have hg : wr.grownBy w28 (some go18) := (by rw [hw]; exact HP27.2); have hp_ : Kd.R Kd.bool 4 w28 w.heap.size (fun _ => True) (.slice (some ⟨go18, 0, none⟩) x6_3.length co18) y488 := (by rw [hw, Ny488.1]; exact HP27.1); clear HP27; replace HO_5 := am (Kd.S_after (v := (.slice (some ⟨go18, 0, none⟩) x6_3.length co18)) (v1 := (.slice (some ⟨go18, 0, none⟩) x6_3.length co18)) (ok := (fun _ => True)) (by (with_reducible repeat (first | apply Kd.S_alloc | apply Kd.S_drewN | apply Kd.S_drew)); exact Kd.S_mono HO_5.1 (fun _ hk => ⟨trivial, hk⟩)) hg (.inl rfl)); replace HO_6 := am hp_; replace HB := am ((by rw [hw]; exact below_set (HB.1) GB18.1 : Below w.heap.size w w28)); clear hg hw hp_))
  (try simp only [← hl6_3])
  go_roundg k3
  case measure => have := HK1.1; have := HJ9.1; have := HK3.1; omega
  case rel => exact ⟨(y488), (wrap64 (x8_3 + 1)), prs, H', ⟨by have := HK1.1; have := HJ9.1; have := HK3.1; omega⟩, ⟨by (try simp only [hl6_3]); (with_reducible repeat (first | apply Kd.S_alloc | apply Kd.S_drewN | apply Kd.S_drew)); exact Kd.S_mono HO_5.1 (fun _ hk => hk.2)⟩, ⟨by (try simp only [hl6_3]); exact pkr HO_6.1⟩, ⟨pbg⟩⟩
 replace c25 := Bool.eq_false_iff.mpr c25
 subst c25
 rw [if_neg Bool.false_ne_true] at H
 replace H := ifp H
 obtain ⟨c29, H⟩ := H
 have c29b0 := decide_eq_true c29
 clear c29
 replace H := ifp H
 obtain ⟨c30, H⟩ := H
 have c30b0 := decide_eq_true c30
 (try have c30b9_0 : decide (x7_1 < (x6_3.length : Int)) = true := (by rw [← hl6_3]; exact c30b0))
 clear c30
 replace H := ifp H
 obtain ⟨c31, H⟩ := H
 have c31b0 := decide_eq_true c31
 clear c31
 replace H := ifp H
 obtain ⟨c32, H⟩ := H
 have c32b0 := decide_eq_true c32
 (try have c32b9_0 : decide ((rd l1 x7_1) < (x6_3.length : Int)) = true := (by rw [← hl6_3]; exact c32b0))
 clear c32
 replace H := ifp H
 obtain ⟨c33, H⟩ := H
 have c33b0 := decide_eq_true c33
 clear c33
 obtain ⟨y492, hy492⟩ : ∃ y_ : List Bool, y_ = (x6_3.set (x8_3 : Int).toNat (rdOf false (rd_L13 t477 (rd l1 x7_1)) x8_3)) := ⟨_, rfl⟩
 replace H : (r07_Reach.l1 k3 l0 l1 t477 y492 x7_1 (wrap64 (x8_3 + 1))) = some r := hrp hy492 H
 have Ny492 := am hy492
 clear hy492
 have H' := am H
 clear H
 have p487 : 0 ≤ (x8_3 : Int) := dq
 have q487 : x8_3 < (x6_3.length : Int) := dq
 obtain ⟨ad487, e487, hx487_0⟩ := Kd.at_bool (Kd.R_reads' HO_6.1).2.2 x8_3 p487 q487
 (try rw [← Nbq24.1] at hx487_0)
 obtain rfl : (⟨go18, 0, none⟩ : Addr) = ad487 := (by injection e487)
 (first | simp only [add_plain] at hx487_0 | simp only [add_at] at hx487_0 | simp only [Addr.add, Nat.zero_add] at hx487_0 | skip)
 replace p487 := eq_true p487
 replace q487 := eq_true q487
 obtain ⟨p489, q489, ad489, e489, hx489_0⟩ := bint HR1.1 HB.1 x7_1
 obtain rfl : ad485 = ad489 := (by injection e489)
 obtain ⟨Ao35, co35, eo35⟩ := Kd.S_slice HO_5.1
 subst eo35
 have p490 : 0 ≤ ((rd l1 x7_1) : Int) := dq
 have q490 : (rd l1 x7_1) < (t477.length : Int) := dq
 obtain ⟨ad490, A490_0, c490_0, e490, hx490_0, hl490_0, hi490_0⟩ := at_L13 (Kd.S_reads' HO_5.1).2.2 (rd l1 x7_1) p490 q490
 cases e490
 obtain ⟨ce490, hce490, hMe490, hcc490⟩ := Kd.S_get HO_5.1 [] (rd l1 x7_1) p490 (by first | exact q490 | exact dq | (have e_ := (Kd.S_reads' HO_5.1).1; omega))
 obtain ⟨ve490_0, rfl, ge490_0⟩ := hMe490
 have hv490_0 := hcc490 0 _ rfl
 rw [Nat.add_zero, show ((Kd.slice 4 Kd.bool)).sz = 1 from rfl, Nat.mul_one] at hv490_0
 replace hv490_0 := Option.some.inj (hv490_0.symm.trans hx490_0)
 rw [hv490_0] at ge490_0
 have HL490_0 := am (show Kd.R Kd.bool 4 _ _ _ _ (rd_L13 t477 (rd l1 x7_1)) from ge490_0)
 clear hv490_0 ge490_0 hcc490 hce490
 have HR490_0 := am hi490_0
 have HC490_0 := am hl490_0
 clear hi490_0 hl490_0
 replace p490 := eq_true p490
 replace q490 := eq_true q490
 obtain ⟨p491, q491, ad491, e491, hx491_0⟩ := dbool (by repeat (first | (with_reducible exact HR490_0.1) | (with_reducible refine Kd.C_alloc ?_ _) | (with_reducible refine Kd.C_drewN ?_ _) | (with_reducible refine Kd.C_drew ?_) | exact HR490_0.1)) x8_3
 (try rw [← Nbq24.1] at hx491_0)
 cases e491
 have p34 : 0 ≤ (x8_3 : Int) := dq
 have q34 : (x8_3 : Int) < ((x6_3.length : Int) : Int) := dq
 obtain ⟨hx34_0, hf34_0⟩ := Kd.R_celln false HO_6.1 (x8_3 : Int) p34 q34
 replace p34 := eq_true p34
 replace q34 := eq_true q34
 have HP36 := Kd.R_putg HO_6.1 (x8_3 : Int) (rdOf false (rd_L13 t477 (rd l1 x7_1)) x8_3)
 go_wp2_with (first | ((with_reducible refine gate_store (t := 4) (p := 64) rfl ?_); refine store_event (t := 4) (p := 64) (v := ?vo_w37) (w1 := (wr.setCell ⟨go18, (x8_3 : Int).toNat, none⟩ (.bool (rdOf false (rd_L13 t477 (rd l1 x7_1)) x8_3)))) ?hg ?ho ?hn ?hr ?_; (case ho => rfl); (case hg => rfl); (case hn => rfl); (case hr => first | (go_simp; done) | (go_simp; rfl)); intro w37 hw; have hg : wr.grownBy w37 (some go18) := (by rw [hw]; exact HP36.2); have hp_ : Kd.R Kd.bool 4 w37 w.heap.size (fun _ => True) (.slice (some ⟨go18, 0, none⟩) x6_3.length co18) y492 := (by rw [hw, Ny492.1]; exact HP36.1); clear HP36; replace HO_5 := am (Kd.S_after (v := (.slice (some ⟨go18, 0, none⟩) x6_3.length co18)) (v1 := (.slice (some ⟨go18, 0, none⟩) x6_3.length co18)) (ok := (fun _ => True)) (by (with_reducible repeat (first | apply Kd.S_alloc | apply Kd.S_drewN | apply Kd.S_drew)); exact Kd.S_mono HO_5.1 (fun _ hk => ⟨trivial, hk⟩)) hg (.inl rfl)); replace HO_6 := am hp_; replace HL490_0 := am (Kd.R_after (v := (.slice (some ⟨go18, 0, none⟩) x6_3.length co18)) (v1 := (.slice (some ⟨go18, 0, none⟩) x6_3.length co18)) (ok := (fun k_ => some k_ ≠ (.slice (some ad490) t477.length co35 : Value).ownBlock)) (by (with_reducible repeat (first | apply Kd.R_alloc | apply Kd.R_drewN | apply Kd.R_drew)); exact Kd.R_mono HL490_0.1 (fun _ hk => ⟨hk.2, hk.1⟩)) hg (.inl rfl)); replace HB := am ((by rw [hw]; exact below_set (HB.1) GB18.1 : Below w.heap.size w w37)); clear hg hw hp_))
 (try simp only [← hl6_3])
 go_roundg k3
 case measure => have := HK1.1; have := HJ9.1; have := HK3.1; omega
 case rel => exact ⟨(y492), (wrap64 (x8_3 + 1)), prs, H', ⟨by have := HK1.1; have := HJ9.1; have := HK3.1; omega⟩, ⟨by (try simp only [hl6_3]); (with_reducible repeat (first | apply Kd.S_alloc | apply Kd.S_drewN | apply Kd.S_drew)); exact Kd.S_mono HO_5.1 (fun _ hk => hk.2)⟩, ⟨by (try simp only [hl6_3]); exact pkr HO_6.1⟩, ⟨pbg⟩⟩

/-! ### r43_off: function 43 -/
def r43_off.l0 : Nat → List (List Int) → List Bool → List Bool → List Int → Int → Option (List Int)
 | 0, _, _, _, _, _ => none
 | k + 1, x7, x8, x9, x10, x11 => if x11 < (x7.length : Int) then (if 0 ≤ x11 then (if x11 < (x8.length : Int) then (if rdOf false x8 x11 = true then (if x11 < (x9.length : Int) then (if rdOf false x9 x11 = true then (r43_off.l0 k x7 x8 x9 x10 (wrap64 (x11 + 1))) else (if x10.length < 17592186044416 then (r43_off.l0 k x7 x8 x9 (x10 ++ [x11]) (wrap64 (x11 + 1))) else (none))) else (none)) else (if x10.length < 17592186044416 then (r43_off.l0 k x7 x8 x9 (x10 ++ [x11]) (wrap64 (x11 + 1))) else (none))) else (none)) else (none)) else (some x10)
def r43_off.f (k : Nat) (a0_0 : ByteArray) (l0_1 : List (S52)) (l0_2 : List (S48)) (a1 : Int) (a2 : Int) : Option (List Int) := (r13_Flow.f k a0_0 l0_1 l0_2).bind fun t505 => ((r07_Reach.f k t505 (([a1] : List Int))).bind fun t511 => ((r07_Reverse.f k t505).bind fun t514 => ((r07_Reach.f k t514 (([a2] : List Int))).bind fun t520 => (r43_off.l0 k t505 t511 t520 ([] : List Int) 0))))
theorem r43_off.mono_l : ∀ k, M5 r43_off.l0 k
 | 0 => fun _ _ _ _ _ r h => by simp [r43_off.l0] at h
 | k + 1 => by
  have ih0 := r43_off.mono_l k
  ·intro y0 y1 y2 y3 y4
   unfold r43_off.l0
   repeat' first | (with_reducible first | apply ih0 | apply r07_Reach.mono | apply r07_Reverse.mono | apply r13_Flow.mono | apply lr | apply ln | apply li | refine lb ?_ fun _ => ?_)
theorem r43_off.mono : ∀ a0 a1 a2 a3 a4 k, LeO (r43_off.f k a0 a1 a2 a3 a4) (r43_off.f (k + 1) a0 a1 a2 a3 a4) := by
 intro a0 a1 a2 a3 a4 k
 have ih0 := r43_off.mono_l k
 unfold r43_off.f
 repeat' first | (with_reducible first | apply ih0 | apply r07_Reach.mono | apply r07_Reverse.mono | apply r13_Flow.mono | apply lr | apply ln | apply li | refine lb ?_ fun _ => ?_)
set_option maxHeartbeats 8000000 in
set_option maxRecDepth 100000 in
theorem r43_off.calls (k : Nat) (a0_0 : ByteArray) (A0_1 : Option Addr) (c0_1 : Nat) (l0_1 : List (S52)) (A0_2 : Option Addr) (c0_2 : Nat) (l0_2 : List (S48)) (a1 : Int) (a2 : Int) (r : List Int) (w : World) (hr0_1 : Kd.C k52 w A0_1 l0_1.length l0_1) (hc0_1 : l0_1.length ≤ c0_1) (hr0_2 : Kd.C k48 w A0_2 l0_2.length l0_2) (hc0_2 : l0_2.length ≤ c0_2) (h : r43_off.f k a0_0 l0_1 l0_2 a1 a2 = some r) :
  Calls Try.prog 43 #[.agg #[.string a0_0, .slice A0_1 l0_1.length c0_1, .slice A0_2 l0_2.length c0_2], .int .i64 a1, .int .i64 a2] w fun e w' => ∃ v0_ : Value, e = .returned (v0_) ∧ Kd.R (Kd.int .i64) 3 w' w.heap.size (fun _ => True) v0_ r ∧ Below w.heap.size w w' := by
 have hu25 := Try.underlying25
 have HR0_1 := am hr0_1
 have HC0_1 := am hc0_1
 clear hr0_1 hc0_1
 have HR0_2 := am hr0_2
 have HC0_2 := am hc0_2
 clear hr0_2 hc0_2
 have HB := am (Below.refl w.heap.size w)
 have H : ((r13_Flow.f k a0_0 l0_1 l0_2).bind fun t505 => ((r07_Reach.f k t505 (([a1] : List Int))).bind fun t511 => ((r07_Reverse.f k t505).bind fun t514 => ((r07_Reach.f k t514 (([a2] : List Int))).bind fun t520 => (r43_off.l0 k t505 t511 t520 ([] : List Int) 0))))) = some r := h
 clear h
 replace H := bnd H
 obtain ⟨t505, A4, H⟩ := H
 (try dsimp only at H)
 obtain ⟨y508, hy508⟩ : ∃ y_ : List Int, y_ = (([a1] : List Int)) := ⟨_, rfl⟩
 replace H : ((r07_Reach.f k t505 y508).bind fun t511 => ((r07_Reverse.f k t505).bind fun t514 => ((r07_Reach.f k t514 (([a2] : List Int))).bind fun t520 => (r43_off.l0 k t505 t511 t520 ([] : List Int) 0)))) = some r := hrp hy508 H
 have Ny508 := am hy508
 clear hy508
 replace H := bnd H
 obtain ⟨t511, A5, H⟩ := H
 (try dsimp only at H)
 replace H := bnd H
 obtain ⟨t514, A6, H⟩ := H
 (try dsimp only at H)
 obtain ⟨y517, hy517⟩ : ∃ y_ : List Int, y_ = (([a2] : List Int)) := ⟨_, rfl⟩
 replace H : ((r07_Reach.f k t514 y517).bind fun t520 => (r43_off.l0 k t505 t511 t520 ([] : List Int) 0)) = some r := hrp hy517 H
 have Ny517 := am hy517
 clear hy517
 replace H := bnd H
 obtain ⟨t520, A7, H⟩ := H
 (try dsimp only at H)
 have H' := am H
 clear H
 go_enter Try.func43, Try.ntmps43
 go_wp2_with (first | ((with_reducible refine gate_dst (N := 3) rfl ?_); refine box_ev (N := 3) (cs := #[.string a0_0, .slice A0_1 l0_1.length c0_1, .slice A0_2 l0_2.length c0_2]) (t := 25) ?_; intro gb504 hg w8 hbox hb; have BK504 := am hbox; have GW504 := gwl hg; have GE504 := GW504; replace HB := bsl hb; clear hb hbox hg; obtain ⟨z9_0, z9_1, z9_2, y9_0, y9_1, y9_2⟩ := cf3 BK504.1) | ((with_reducible refine gate_callee (f := 68) rfl ?_); refine gC 13 Try.func68 _ (r13_Flow.calls k a0_0 _ _ l0_1 _ _ l0_2 t505 _ (csb HR0_1 HB) HC0_1.1 (csb HR0_2 HB) HC0_2.1 A4.1) ?_; rintro e w10 ⟨v506, rfl, ho0, hb⟩; refine ⟨_, rfl, ?_⟩; have HO507 := am (Kd.S_lower ho0 (below_size pbg)); replace BK504 := bbh BK504 hb; replace HB := bst hb; (try clear hb); (try clear ho0)) | ((with_reducible refine gate_dst (N := 16) rfl ?_); refine Kd.R_lit (Kd.int .i64) _ 3 ?hg (N := 16) ?hd (xs := ([a1] : List Int)) (inner := [.int .i64 a1]) (ok := fun _ => True) (okp := fun _ => True) ?hr ?hp (fun _ hk => hk) trivial (Below.refl _ _) (Nat.le_refl _) (by simp) ?_; (case hd => rfl); (case hg => rfl); (case hr => first | (go_simp; done) | (go_simp; rfl)); (case hp => exact (Reps.one (show Kd.M (Kd.int .i64) _ _ _ a1 [.int .i64 a1] from rfl) (Reps.none _ _))); intro v509 w11 ho12 hb hg_ hnew_; clear hg_ hnew_; (first | rw [← Ny508.1] at ho12 | (simp only [Int.reduceToNat] at ho12; rw [← Ny508.1] at ho12)); have HO510 := am (Kd.R_lower ho12 (below_size pbg)); replace HO507 := am (Kd.S_elder' (pks HO507.1) (Kd.R_base ho12) hb); replace BK504 := bbh BK504 hb; replace HB := bst hb; clear hb ho12; obtain ⟨Ao13, co13, eo13⟩ := Kd.S_slice HO507.1; subst eo13; obtain ⟨Ao14, co14, eo14⟩ := Kd.R_slice HO510.1; subst eo14) | ((with_reducible refine gate_callee (f := 69) rfl ?_); refine gC 17 Try.func69 _ (r07_Reach.calls k _ _ t505 _ _ y508 t511 _ (csd ((Kd.S_reads' HO507.1).2.2)) ((Kd.S_reads' HO507.1).2.1) (csd ((Kd.R_reads' HO510.1).2.2)) ((Kd.R_reads' HO510.1).2.1) A5.1) ?_; rintro e w15 ⟨v512, rfl, ho0, hb⟩; refine ⟨_, rfl, ?_⟩; have HO513 := am (Kd.R_lower ho0 (below_size pbg)); replace HO507 := sbw HO507 hb; replace HO510 := rbw HO510 hb; replace BK504 := bbh BK504 hb; replace HB := bst hb; (try clear hb); (try clear ho0)) | ((with_reducible refine gate_callee (f := 70) rfl ?_); refine gC 19 Try.func70 _ (r07_Reverse.calls k _ _ t505 t514 _ (csd ((Kd.S_reads' HO507.1).2.2)) ((Kd.S_reads' HO507.1).2.1) A6.1) ?_; rintro e w16 ⟨v515, rfl, ho0, hb⟩; refine ⟨_, rfl, ?_⟩; have HO516 := am (Kd.S_lower (Kd.S_new' (Kd.S_new' ho0 (Kd.S_lt (pks HO507.1))) (Kd.R_lt (pkr HO510.1))) (below_size pbg)); replace HO507 := am (Kd.S_elder' (pks HO507.1) (Kd.S_base ho0) hb); replace HO510 := rbw HO510 hb; replace HO513 := rbw HO513 hb; replace BK504 := bbh BK504 hb; replace HB := bst hb; (try clear hb); (try clear ho0)) | ((with_reducible refine gate_dst (N := 21) rfl ?_); refine Kd.R_lit (Kd.int .i64) _ 3 ?hg (N := 21) ?hd (xs := ([a2] : List Int)) (inner := [.int .i64 a2]) (ok := fun _ => True) (okp := fun _ => True) ?hr ?hp (fun _ hk => hk) trivial (Below.refl _ _) (Nat.le_refl _) (by simp) ?_; (case hd => rfl); (case hg => rfl); (case hr => first | (go_simp; done) | (go_simp; rfl)); (case hp => exact (Reps.one (show Kd.M (Kd.int .i64) _ _ _ a2 [.int .i64 a2] from rfl) (Reps.none _ _))); intro v518 w17 ho18 hb hg_ hnew_; clear hg_ hnew_; (first | rw [← Ny517.1] at ho18 | (simp only [Int.reduceToNat] at ho18; rw [← Ny517.1] at ho18)); have HO519 := am (Kd.R_lower (Kd.R_new' ho18 (Kd.R_lt (pkr HO510.1))) (below_size pbg)); replace HO507 := am (Kd.S_elder' (pks HO507.1) (Kd.R_base ho18) hb); replace HO510 := am (Kd.R_elder' (pkr HO510.1) (Kd.R_base ho18) hb); replace HO513 := rbw HO513 hb; replace HO516 := am (Kd.S_elder' (pks HO516.1) (Kd.R_base ho18) hb); replace BK504 := bbh BK504 hb; replace HB := bst hb; clear hb ho18; obtain ⟨Ao19, co19, eo19⟩ := Kd.S_slice HO516.1; subst eo19; obtain ⟨Ao20, co20, eo20⟩ := Kd.R_slice HO519.1; subst eo20) | ((with_reducible refine gate_callee (f := 69) rfl ?_); refine gC 22 Try.func69 _ (r07_Reach.calls k _ _ t514 _ _ y517 t520 _ (csd ((Kd.S_reads' HO516.1).2.2)) ((Kd.S_reads' HO516.1).2.1) (csd ((Kd.R_reads' HO519.1).2.2)) ((Kd.R_reads' HO519.1).2.1) A7.1) ?_; rintro e w21 ⟨v521, rfl, ho0, hb⟩; refine ⟨_, rfl, ?_⟩; have HO522 := am (Kd.R_lower (Kd.R_new' ho0 (Kd.R_lt (pkr HO513.1))) (below_size pbg)); replace HO507 := sbw HO507 hb; replace HO510 := rbw HO510 hb; replace HO513 := am (Kd.R_elder' (pkr HO513.1) (Kd.R_base ho0) hb); replace HO516 := sbw HO516 hb; replace HO519 := rbw HO519 hb; replace BK504 := bbh BK504 hb; replace HB := bst hb; (try clear hb); (try clear ho0)))
 go_loopg [10, 11] k (fun kq v10 v11 w' => ∃ (x10_1 : List Int) (x11_1 : Int), v11 = .int .i64 x11_1 ∧ Aside0 (r43_off.l0 kq t505 t511 t520 x10_1 x11_1 = some r) ∧ Aside0 (kq ≤ k) ∧ Aside0 (Kd.S (Kd.slice 3 (Kd.int .i64)) 39 w' w.heap.size (fun k_ => some k_ ≠ (v10 : Value).ownBlock) (.slice Ao13 t505.length co13) t505) ∧ Aside0 (Kd.R Kd.bool 4 w' w.heap.size (fun k_ => some k_ ≠ (v521 : Value).ownBlock) v512 t511) ∧ Aside0 (Kd.R Kd.bool 4 w' w.heap.size (fun k_ => some k_ ≠ (v512 : Value).ownBlock) v521 t520) ∧ Aside0 (Kd.R (Kd.int .i64) 3 w' w.heap.size (fun _ => True) v10 x10_1) ∧ Aside0 (w'.heap[gb504]? = some (.cells #[.string a0_0, (.slice A0_1 l0_1.length c0_1), (.slice A0_2 l0_2.length c0_2)] 25 (0, 0))) ∧ Aside0 (Below w.heap.size w w'))
 case atStart => exact ⟨(([] : List Int)), (0), prs, H', ⟨Nat.le_refl _⟩, ⟨by (with_reducible repeat (first | apply Kd.S_alloc | apply Kd.S_drewN | apply Kd.S_drew)); exact Kd.S_mono HO507.1 (fun _ hk => (by simp [Value.ownBlock]))⟩, ⟨by (with_reducible repeat (first | apply Kd.R_alloc | apply Kd.R_drewN | apply Kd.R_drew)); exact Kd.R_mono HO513.1 (fun _ hk => hk.2)⟩, ⟨by (with_reducible repeat (first | apply Kd.R_alloc | apply Kd.R_drewN | apply Kd.R_drew)); exact Kd.R_mono HO522.1 (fun _ hk => hk.2)⟩, ⟨knl⟩, ⟨pbk BK504.1⟩, ⟨pbg⟩⟩
 clear H'
 try clear z9_0 z9_1 z9_2 y9_0 y9_1 y9_2
 obtain ⟨x10_1, x11_1, rfl, HA, HK1, HO_7, HO_8, HO_9, HO_10, BK504, HB⟩ := hrel
 obtain _ | k1 := gk
 ·exact absurd HA.1 (by simp [r43_off.l0])
 have H := HA.1
 clear HA
 simp only [r43_off.l0] at H
 by_cases c22 : x11_1 < (t505.length : Int)
 rotate_left
 ·rw [if_neg c22] at H
  have c22b0 : decide (x11_1 < (t505.length : Int)) = false := decide_eq_false c22
  clear c22
  obtain rfl := Option.some.inj H
  go_wp2
  go_ret
  exact ⟨_, per, by (with_reducible repeat (first | apply Kd.R_alloc | apply Kd.R_drewN | apply Kd.R_drew)); exact HO_10.1, pbg⟩
 rw [if_pos c22] at H
 have c22b0 : decide (x11_1 < (t505.length : Int)) = true := decide_eq_true c22
 clear c22
 replace H := ifp H
 obtain ⟨c23, H⟩ := H
 have c23b0 := decide_eq_true c23
 clear c23
 replace H := ifp H
 obtain ⟨c24, H⟩ := H
 have c24b0 := decide_eq_true c24
 clear c24
 obtain ⟨bq25, hbq25⟩ : ∃ b_ : Bool, b_ = (rdOf false t511 x11_1) := ⟨_, rfl⟩
 replace H : (if bq25 = true then (if x11_1 < (t520.length : Int) then (if rdOf false t520 x11_1 = true then (r43_off.l0 k1 t505 t511 t520 x10_1 (wrap64 (x11_1 + 1))) else (if x10_1.length < 17592186044416 then (r43_off.l0 k1 t505 t511 t520 (x10_1 ++ [x11_1]) (wrap64 (x11_1 + 1))) else (none))) else (none)) else (if x10_1.length < 17592186044416 then (r43_off.l0 k1 t505 t511 t520 (x10_1 ++ [x11_1]) (wrap64 (x11_1 + 1))) else (none))) = some r := by rw [← hbq25] at H; exact H
 have Nbq25 := am hbq25
 clear hbq25
 by_cases c26 : bq25 = true
 rotate_left
 ·replace c26 := Bool.eq_false_iff.mpr c26
  subst c26
  rw [if_neg Bool.false_ne_true] at H
  replace H := ifp H
  obtain ⟨c36, H⟩ := H
  have LMc36 := am c36
  clear c36
  obtain ⟨y528, hy528⟩ : ∃ y_ : List Int, y_ = (x10_1 ++ [x11_1]) := ⟨_, rfl⟩
  replace H : (r43_off.l0 k1 t505 t511 t520 y528 (wrap64 (x11_1 + 1))) = some r := hrp hy528 H
  have Ny528 := am hy528
  clear hy528
  have H' := am H
  clear H
  obtain ⟨Ao37, co37, eo37⟩ := Kd.R_slice HO_8.1
  subst eo37
  obtain ⟨p523, q523, ad523, e523, hx523_0⟩ := dbool (Kd.R_reads' HO_8.1).2.2 x11_1
  (try rw [← Nbq25.1] at hx523_0)
  cases e523
  go_wp2_with (first | ((with_reducible refine gate_builtin (b := .append) (xs := #[.tmp 41, .tmp 43]) rfl ?_); at_builtin; refine Kd.R_append (Kd.int .i64) (w0 := w) w.heap.size rfl (.tmp 41) (.tmp 43) 39 3 (.int .i64 0) 8 rfl Try.underlying39 info3 rfl (by decide) (by omega) u10 x10_1 x11_1 [.int .i64 x11_1] (fun _ => True) (fun _ => False) rfl rfl ?aP (fun _ hk => hk.elim) ?aF ?aO ?aB ?aS ?aL ?_; (case aP => exact rfl); (case aB => exact pbg); (case aF => exact (fun _ _ => trivial)); (case aO => exact (pkr HO_10.1)); (case aS => exact (below_size pbg)); (case aL => have := LMc36.1; omega); intro v529 w38 ho hb hg hat; rw [← Ny528.1] at ho; have HO530 := am ho; replace HO_7 := am (Kd.S_after (ok := (fun _ => True)) (by (with_reducible repeat (first | apply Kd.S_alloc | apply Kd.S_drewN | apply Kd.S_drew)); exact Kd.S_mono HO_7.1 (fun _ hk => ⟨trivial, hk⟩)) hg hat); replace HO_8 := am (Kd.R_over' (pkr HO_8.1) (Kd.R_typed (pkr HO_10.1)) (by decide) hg); replace HO_9 := am (Kd.R_over' (pkr HO_9.1) (Kd.R_typed (pkr HO_10.1)) (by decide) hg); replace BK504 := am (blk_grown (g := gb504) (o := .cells #[.string a0_0, .slice A0_1 l0_1.length c0_1, .slice A0_2 l0_2.length c0_2] 25 (0, 0)) (by exact pbk BK504.1) hg (Kd.R_ne HO_10.1 BK504.1 (by decide))); replace HB := am hb; clear HO_10; clear ho hb hg hat))
  go_roundg k1
  case measure => have := HK1.1; omega
  case rel => exact ⟨(y528), (wrap64 (x11_1 + 1)), prs, H', ⟨by have := HK1.1; omega⟩, ⟨by (with_reducible repeat (first | apply Kd.S_alloc | apply Kd.S_drewN | apply Kd.S_drew)); exact Kd.S_mono HO_7.1 (fun _ hk => hk.2)⟩, ⟨pkr HO_8.1⟩, ⟨pkr HO_9.1⟩, ⟨pkr HO530.1⟩, ⟨pbk BK504.1⟩, ⟨pbg⟩⟩
 subst c26
 rw [if_pos rfl] at H
 replace H := ifp H
 obtain ⟨c27, H⟩ := H
 have c27b0 := decide_eq_true c27
 clear c27
 obtain ⟨bq28, hbq28⟩ : ∃ b_ : Bool, b_ = (rdOf false t520 x11_1) := ⟨_, rfl⟩
 replace H : (if bq28 = true then (r43_off.l0 k1 t505 t511 t520 x10_1 (wrap64 (x11_1 + 1))) else (if x10_1.length < 17592186044416 then (r43_off.l0 k1 t505 t511 t520 (x10_1 ++ [x11_1]) (wrap64 (x11_1 + 1))) else (none))) = some r := by rw [← hbq28] at H; exact H
 have Nbq28 := am hbq28
 clear hbq28
 by_cases c29 : bq28 = true
 ·subst c29
  rw [if_pos rfl] at H
  have H' := am H
  clear H
  obtain ⟨Ao30, co30, eo30⟩ := Kd.R_slice HO_8.1
  subst eo30
  obtain ⟨p523, q523, ad523, e523, hx523_0⟩ := dbool (Kd.R_reads' HO_8.1).2.2 x11_1
  (try rw [← Nbq25.1] at hx523_0)
  (try rw [← Nbq28.1] at hx523_0)
  cases e523
  obtain ⟨Ao31, co31, eo31⟩ := Kd.R_slice HO_9.1
  subst eo31
  obtain ⟨p524, q524, ad524, e524, hx524_0⟩ := dbool (Kd.R_reads' HO_9.1).2.2 x11_1
  (try rw [← Nbq25.1] at hx524_0)
  (try rw [← Nbq28.1] at hx524_0)
  cases e524
  go_wp2
  go_roundg k1
  case measure => have := HK1.1; omega
  case rel => exact ⟨(x10_1), (wrap64 (x11_1 + 1)), prs, H', ⟨by have := HK1.1; omega⟩, ⟨pks HO_7.1⟩, ⟨pkr HO_8.1⟩, ⟨pkr HO_9.1⟩, ⟨pkr HO_10.1⟩, ⟨pbk BK504.1⟩, ⟨pbg⟩⟩
 replace c29 := Bool.eq_false_iff.mpr c29
 subst c29
 rw [if_neg Bool.false_ne_true] at H
 replace H := ifp H
 obtain ⟨c32, H⟩ := H
 have LMc32 := am c32
 clear c32
 obtain ⟨y525, hy525⟩ : ∃ y_ : List Int, y_ = (x10_1 ++ [x11_1]) := ⟨_, rfl⟩
 replace H : (r43_off.l0 k1 t505 t511 t520 y525 (wrap64 (x11_1 + 1))) = some r := hrp hy525 H
 have Ny525 := am hy525
 clear hy525
 have H' := am H
 clear H
 obtain ⟨Ao33, co33, eo33⟩ := Kd.R_slice HO_8.1
 subst eo33
 obtain ⟨p523, q523, ad523, e523, hx523_0⟩ := dbool (Kd.R_reads' HO_8.1).2.2 x11_1
 (try rw [← Nbq25.1] at hx523_0)
 (try rw [← Nbq28.1] at hx523_0)
 cases e523
 obtain ⟨Ao34, co34, eo34⟩ := Kd.R_slice HO_9.1
 subst eo34
 obtain ⟨p524, q524, ad524, e524, hx524_0⟩ := dbool (Kd.R_reads' HO_9.1).2.2 x11_1
 (try rw [← Nbq25.1] at hx524_0)
 (try rw [← Nbq28.1] at hx524_0)
 cases e524
 go_wp2_with (first | ((with_reducible refine gate_builtin (b := .append) (xs := #[.tmp 41, .tmp 43]) rfl ?_); at_builtin; refine Kd.R_append (Kd.int .i64) (w0 := w) w.heap.size rfl (.tmp 41) (.tmp 43) 39 3 (.int .i64 0) 8 rfl Try.underlying39 info3 rfl (by decide) (by omega) u10 x10_1 x11_1 [.int .i64 x11_1] (fun _ => True) (fun _ => False) rfl rfl ?aP (fun _ hk => hk.elim) ?aF ?aO ?aB ?aS ?aL ?_; (case aP => exact rfl); (case aB => exact pbg); (case aF => exact (fun _ _ => trivial)); (case aO => exact (pkr HO_10.1)); (case aS => exact (below_size pbg)); (case aL => have := LMc32.1; omega); intro v526 w35 ho hb hg hat; rw [← Ny525.1] at ho; have HO527 := am ho; replace HO_7 := am (Kd.S_after (ok := (fun _ => True)) (by (with_reducible repeat (first | apply Kd.S_alloc | apply Kd.S_drewN | apply Kd.S_drew)); exact Kd.S_mono HO_7.1 (fun _ hk => ⟨trivial, hk⟩)) hg hat); replace HO_8 := am (Kd.R_over' (pkr HO_8.1) (Kd.R_typed (pkr HO_10.1)) (by decide) hg); replace HO_9 := am (Kd.R_over' (pkr HO_9.1) (Kd.R_typed (pkr HO_10.1)) (by decide) hg); replace BK504 := am (blk_grown (g := gb504) (o := .cells #[.string a0_0, .slice A0_1 l0_1.length c0_1, .slice A0_2 l0_2.length c0_2] 25 (0, 0)) (by exact pbk BK504.1) hg (Kd.R_ne HO_10.1 BK504.1 (by decide))); replace HB := am hb; clear HO_10; clear ho hb hg hat))
 go_roundg k1
 case measure => have := HK1.1; omega
 case rel => exact ⟨(y525), (wrap64 (x11_1 + 1)), prs, H', ⟨by have := HK1.1; omega⟩, ⟨by (with_reducible repeat (first | apply Kd.S_alloc | apply Kd.S_drewN | apply Kd.S_drew)); exact Kd.S_mono HO_7.1 (fun _ hk => hk.2)⟩, ⟨pkr HO_8.1⟩, ⟨pkr HO_9.1⟩, ⟨pkr HO527.1⟩, ⟨pbk BK504.1⟩, ⟨pbg⟩⟩

/-! ### r43_Problems: function 19 -/
mutual
def r43_Problems.j0 : Nat → List (S50) → Int → Bool → Int → Bool → ByteArray → List (S52) → List (S48) → Option ((List (S50)) × Int)
 | 0, _, _, _, _, _, _, _, _ => none
 | k + 1, x5, x6, x7, x8, x9, x532000, x532001, x532002 => if x9 = true then (r43_Problems.j1 k x5 x6 x7 x8 x9 x532000 x532001 x532002) else (if x5.length < 8796093022208 then (r43_Problems.j1 k (x5 ++ [(⟨2, 0⟩ : S50)]) x6 x7 x8 x9 x532000 x532001 x532002) else (none))
def r43_Problems.j1 : Nat → List (S50) → Int → Bool → Int → Bool → ByteArray → List (S52) → List (S48) → Option ((List (S50)) × Int)
 | 0, _, _, _, _, _, _, _, _ => none
 | k + 1, x5, x6, x7, x8, x9, x532000, x532001, x532002 => if x7 = true then (r43_Problems.j2 k x5 x6 x8 (!x9) x532000 x532001 x532002) else (r43_Problems.j2 k x5 x6 x8 true x532000 x532001 x532002)
def r43_Problems.j2 : Nat → List (S50) → Int → Int → Bool → ByteArray → List (S52) → List (S48) → Option ((List (S50)) × Int)
 | 0, _, _, _, _, _, _, _ => none
 | k + 1, x5, x6, x8, x48, x532000, x532001, x532002 => if x48 = true then (some (x5, 0)) else (if x6 = x8 then (if x5.length < 8796093022208 then (r43_Problems.j3 k (x5 ++ [(⟨3, x6⟩ : S50)]) x6 x8 x532000 x532001 x532002) else (none)) else (r43_Problems.j3 k x5 x6 x8 x532000 x532001 x532002))
def r43_Problems.j3 : Nat → List (S50) → Int → Int → ByteArray → List (S52) → List (S48) → Option ((List (S50)) × Int)
 | 0, _, _, _, _, _, _ => none
 | k + 1, x5, x6, x8, x532000, x532001, x532002 => (r43_off.f k x532000 x532001 x532002 x6 x8).bind fun t548 => (r43_Problems.l0 k x5 t548 0 x532000 x532001 x532002)
def r43_Problems.l0 : Nat → List (S50) → List Int → Int → ByteArray → List (S52) → List (S48) → Option ((List (S50)) × Int)
 | 0, _, _, _, _, _, _ => none
 | k + 1, x5, x10, x11, x532000, x532001, x532002 => if x11 < (x10.length : Int) then (if 0 ≤ x11 then (if (rd x10 x11) < (x532001.length : Int) then (if x5.length < 8796093022208 then (r43_Problems.l0 k (x5 ++ [(⟨3, rd x10 x11⟩ : S50)]) x10 (wrap64 (x11 + 1)) x532000 x532001 x532002) else (none)) else (if x5.length < 8796093022208 then (r43_Problems.l0 k (x5 ++ [(⟨4, wrap64 ((rd x10 x11) - (x532001.length : Int))⟩ : S50)]) x10 (wrap64 (x11 + 1)) x532000 x532001 x532002) else (none))) else (none)) else (some (x5, 0))
end
def r43_Problems.f (k : Nat) (a0_0 : ByteArray) (l0_1 : List (S52)) (l0_2 : List (S48)) : Option ((List (S50)) × Int) := (r09_Check.f k a0_0 l0_1 l0_2).bind fun bt532 => (if bt532.1 = 0 then ((r09_Plain.f k a0_0 l0_1 l0_2).bind fun t534 => (if t534 = true then ((r43_Source.f k a0_0 l0_1 l0_2).bind fun bt535 => ((r43_Sink.f k a0_0 l0_1 l0_2).bind fun bt537 => (if bt535.2 = true then (r43_Problems.j0 k ([] : List (S50)) bt535.1 bt535.2 bt537.1 bt537.2 a0_0 l0_1 l0_2) else (if ([] : List (S50)).length < 8796093022208 then (r43_Problems.j0 k (([] : List (S50)) ++ [(⟨1, 0⟩ : S50)]) bt535.1 bt535.2 bt537.1 bt537.2 a0_0 l0_1 l0_2) else (none))))) else (some (([] : List (S50)), 12)))) else (some (([] : List (S50)), bt532.1)))
theorem r43_Problems.mono_l : ∀ k, M8 r43_Problems.j0 k ∧ M8 r43_Problems.j1 k ∧ M7 r43_Problems.j2 k ∧ M6 r43_Problems.j3 k ∧ M6 r43_Problems.l0 k
 | 0 => ⟨fun _ _ _ _ _ _ _ _ r h => by simp [r43_Problems.j0] at h, fun _ _ _ _ _ _ _ _ r h => by simp [r43_Problems.j1] at h, fun _ _ _ _ _ _ _ r h => by simp [r43_Problems.j2] at h, fun _ _ _ _ _ _ r h => by simp [r43_Problems.j3] at h, fun _ _ _ _ _ _ r h => by simp [r43_Problems.l0] at h⟩
 | k + 1 => by
  obtain ⟨ih0, ih1, ih2, ih3, ih4⟩ := r43_Problems.mono_l k
  refine ⟨?_, ?_, ?_, ?_, ?_⟩ <;> dsimp only [M6, M7, M8] <;> intros <;> (first | unfold r43_Problems.j0 | unfold r43_Problems.j1 | unfold r43_Problems.j2 | unfold r43_Problems.j3 | unfold r43_Problems.l0) <;> repeat' first | (with_reducible first | apply ih0 | apply ih1 | apply ih2 | apply ih3 | apply ih4 | apply r09_Check.mono | apply r09_Plain.mono | apply r43_Sink.mono | apply r43_Source.mono | apply r43_off.mono | apply lr | apply ln | apply li | refine lb ?_ fun _ => ?_)
theorem r43_Problems.mono : ∀ a0 a1 a2 k, LeO (r43_Problems.f k a0 a1 a2) (r43_Problems.f (k + 1) a0 a1 a2) := by
 intro a0 a1 a2 k
 obtain ⟨ih0, ih1, ih2, ih3, ih4⟩ := r43_Problems.mono_l k
 unfold r43_Problems.f
 repeat' first | (with_reducible first | apply ih0 | apply ih1 | apply ih2 | apply ih3 | apply ih4 | apply r09_Check.mono | apply r09_Plain.mono | apply r43_Sink.mono | apply r43_Source.mono | apply r43_off.mono | apply lr | apply ln | apply li | refine lb ?_ fun _ => ?_)
def r43_Problems.T21 : Bool × List (List Nat × List Nat) := (true, [([], []), ([], []), ([0, 1], [0, 1]), ([2], [2]), ([], []), ([4], [4]), ([5], [5]), ([3, 6], [3, 6])])
def r43_Problems.B21 : List Nat := [0, 0, 3, 7, 0, 16, 48, 127]
theorem r43_Problems.tab21 : rtab .any (opsOf Try.f19 21) = r43_Problems.T21 := by kernel_rfl
theorem r43_Problems.bits21 : waitsOk r43_Problems.T21.2 r43_Problems.B21 = true := by kernel_rfl
def r43_Problems.T23 : Bool × List (List Nat × List Nat) := (true, [([], []), ([], []), ([], []), ([1, 2], [1, 2]), ([3], [3]), ([], []), ([5], [5]), ([6], [6]), ([4, 7], [4, 7]), ([8], [8]), ([9], [9]), ([0, 10], [0, 10]), ([11, 11, 0, 1, 2, 3, 4, 5, 6, 7, 8, 9, 10, 11], [0, 11])])
def r43_Problems.B23 : List Nat := [0, 0, 0, 6, 14, 0, 32, 96, 254, 510, 1022, 2047, 4095]
theorem r43_Problems.tab23 : rtab .any (opsOf Try.f19 23) = r43_Problems.T23 := by kernel_rfl
theorem r43_Problems.bits23 : waitsOk r43_Problems.T23.2 r43_Problems.B23 = true := by kernel_rfl
set_option maxHeartbeats 8000000 in
set_option maxRecDepth 100000 in
theorem r43_Problems.calls (k : Nat) (a0_0 : ByteArray) (A0_1 : Option Addr) (c0_1 : Nat) (l0_1 : List (S52)) (A0_2 : Option Addr) (c0_2 : Nat) (l0_2 : List (S48)) (r1 : List (S50)) (r2 : Int) (w : World) (hr0_1 : Kd.C k52 w A0_1 l0_1.length l0_1) (hc0_1 : l0_1.length ≤ c0_1) (hr0_2 : Kd.C k48 w A0_2 l0_2.length l0_2) (hc0_2 : l0_2.length ≤ c0_2) (h : r43_Problems.f k a0_0 l0_1 l0_2 = some (r1, r2)) :
  Calls Try.prog 19 #[.agg #[.string a0_0, .slice A0_1 l0_1.length c0_1, .slice A0_2 l0_2.length c0_2]] w fun e w' => ∃ v0_ : Value, e = .returned (.tuple #[v0_, .int .i64 r2]) ∧ Kd.R k50 50 w' w.heap.size (fun _ => True) v0_ r1 ∧ Below w.heap.size w w' := by
 have hf60_0 : ∀ (x0 x1 : Value) (W : World), (Instr.field 60 (.agg #[x0, x1]) 0).run Try.prog W = .ok x0 W := fun x0 x1 W => by kernel_rfl
 have hu25 := Try.underlying25
 have hu50 := Try.underlying50
 have HR0_1 := am hr0_1
 have HC0_1 := am hc0_1
 clear hr0_1 hc0_1
 have HR0_2 := am hr0_2
 have HC0_2 := am hc0_2
 clear hr0_2 hc0_2
 have HB := am (Below.refl w.heap.size w)
 have H : ((r09_Check.f k a0_0 l0_1 l0_2).bind fun bt532 => (if bt532.1 = 0 then ((r09_Plain.f k a0_0 l0_1 l0_2).bind fun t534 => (if t534 = true then ((r43_Source.f k a0_0 l0_1 l0_2).bind fun bt535 => ((r43_Sink.f k a0_0 l0_1 l0_2).bind fun bt537 => (if bt535.2 = true then (r43_Problems.j0 k ([] : List (S50)) bt535.1 bt535.2 bt537.1 bt537.2 a0_0 l0_1 l0_2) else (if ([] : List (S50)).length < 8796093022208 then (r43_Problems.j0 k (([] : List (S50)) ++ [(⟨1, 0⟩ : S50)]) bt535.1 bt535.2 bt537.1 bt537.2 a0_0 l0_1 l0_2) else (none))))) else (some (([] : List (S50)), 12)))) else (some (([] : List (S50)), bt532.1)))) = some (r1, r2) := h
 clear h
 replace H := bnd H
 obtain ⟨⟨t532, t533⟩, A2, H⟩ := H
 (try dsimp only at H)
 by_cases c3 : t532 = 0
 rotate_left
 ·rw [if_neg c3] at H
  have c3b0 : (t532 == 0) = false := beq_eq_false_iff_ne.mpr c3
  have c3b1 : (t532 != 0) = true := bne_iff_ne.mpr c3
  simp only [Option.some.injEq, Prod.mk.injEq] at H
  obtain ⟨rfl, rfl⟩ := H
  go_enter Try.func19, Try.ntmps19
  go_wp2_with (first | ((with_reducible refine gate_dst (N := 1) rfl ?_); refine box_ev (N := 1) (cs := #[.string a0_0, .slice A0_1 l0_1.length c0_1, .slice A0_2 l0_2.length c0_2]) (t := 25) ?_; intro gb531 hg w53 hbox hb; have BK531 := am hbox; have GW531 := gwl hg; have GE531 := GW531; replace HB := bsl hb; clear hb hbox hg; obtain ⟨z54_0, z54_1, z54_2, y54_0, y54_1, y54_2⟩ := cf3 BK531.1) | ((with_reducible refine gate_callee (f := 41) rfl ?_); refine gC 13 Try.func41 _ (r09_Check.calls k a0_0 _ _ l0_1 _ _ l0_2 t532 t533 _ (csb HR0_1 HB) HC0_1.1 (csb HR0_2 HB) HC0_2.1 A2.1) ?_; rintro e w55 ⟨rfl, hb⟩; refine ⟨_, rfl, ?_⟩; replace BK531 := bbh BK531 hb; replace HB := bst hb; (try clear hb)))
  go_ret2
  exact ⟨_, per, knl, pbg⟩
 rw [if_pos c3] at H
 have c3b0 : (t532 == 0) = true := beq_iff_eq.mpr c3
 have c3b1 : (t532 != 0) = false := bne_eq_false_iff_eq.mpr c3
 clear c3
 replace H := bnd H
 obtain ⟨t534, A4, H⟩ := H
 (try dsimp only at H)
 by_cases c5 : t534 = true
 rotate_left
 ·replace c5 := Bool.eq_false_iff.mpr c5
  subst c5
  rw [if_neg Bool.false_ne_true] at H
  simp only [Option.some.injEq, Prod.mk.injEq] at H
  obtain ⟨rfl, rfl⟩ := H
  go_enter Try.func19, Try.ntmps19
  go_wp2_with (first | ((with_reducible refine gate_dst (N := 1) rfl ?_); refine box_ev (N := 1) (cs := #[.string a0_0, .slice A0_1 l0_1.length c0_1, .slice A0_2 l0_2.length c0_2]) (t := 25) ?_; intro gb531 hg w48 hbox hb; have BK531 := am hbox; have GW531 := gwl hg; have GE531 := GW531; replace HB := bsl hb; clear hb hbox hg; obtain ⟨z49_0, z49_1, z49_2, y49_0, y49_1, y49_2⟩ := cf3 BK531.1) | ((with_reducible refine gate_callee (f := 41) rfl ?_); refine gC 13 Try.func41 _ (r09_Check.calls k a0_0 _ _ l0_1 _ _ l0_2 t532 t533 _ (csb HR0_1 HB) HC0_1.1 (csb HR0_2 HB) HC0_2.1 A2.1) ?_; rintro e w50 ⟨rfl, hb⟩; refine ⟨_, rfl, ?_⟩; replace BK531 := bbh BK531 hb; replace HB := bst hb; (try clear hb); obtain ⟨z51_0, z51_1, z51_2, y51_0, y51_1, y51_2⟩ := cf3 BK531.1) | ((with_reducible refine gate_callee (f := 42) rfl ?_); refine gC 19 Try.func42 _ (r09_Plain.calls k a0_0 _ _ l0_1 _ _ l0_2 false _ (csb HR0_1 HB) HC0_1.1 (csb HR0_2 HB) HC0_2.1 A4.1) ?_; rintro e w52 ⟨rfl, hb⟩; refine ⟨_, rfl, ?_⟩; replace BK531 := bbh BK531 hb; replace HB := bst hb; (try clear hb)))
  go_ret2
  exact ⟨_, per, knl, pbg⟩
 subst c5
 rw [if_pos rfl] at H
 replace H := bnd H
 obtain ⟨⟨t535, t536⟩, A6, H⟩ := H
 (try dsimp only at H)
 replace H := bnd H
 obtain ⟨⟨t537, t538⟩, A7, H⟩ := H
 (try dsimp only at H)
 have HC8 := am H
 clear H
 go_enter Try.func19, Try.ntmps19
 go_upto_if 32 with (first | ((with_reducible refine gate_dst (N := 1) rfl ?_); refine box_ev (N := 1) (cs := #[.string a0_0, .slice A0_1 l0_1.length c0_1, .slice A0_2 l0_2.length c0_2]) (t := 25) ?_; intro gb531 hg w9 hbox hb; have BK531 := am hbox; have GW531 := gwl hg; have GE531 := GW531; replace HB := bsl hb; clear hb hbox hg; obtain ⟨z10_0, z10_1, z10_2, y10_0, y10_1, y10_2⟩ := cf3 BK531.1) | ((with_reducible refine gate_callee (f := 41) rfl ?_); refine gC 13 Try.func41 _ (r09_Check.calls k a0_0 _ _ l0_1 _ _ l0_2 t532 t533 _ (csb HR0_1 HB) HC0_1.1 (csb HR0_2 HB) HC0_2.1 A2.1) ?_; rintro e w11 ⟨rfl, hb⟩; refine ⟨_, rfl, ?_⟩; replace BK531 := bbh BK531 hb; replace HB := bst hb; (try clear hb); obtain ⟨z12_0, z12_1, z12_2, y12_0, y12_1, y12_2⟩ := cf3 BK531.1) | ((with_reducible refine gate_callee (f := 42) rfl ?_); refine gC 19 Try.func42 _ (r09_Plain.calls k a0_0 _ _ l0_1 _ _ l0_2 true _ (csb HR0_1 HB) HC0_1.1 (csb HR0_2 HB) HC0_2.1 A4.1) ?_; rintro e w13 ⟨rfl, hb⟩; refine ⟨_, rfl, ?_⟩; replace BK531 := bbh BK531 hb; replace HB := bst hb; (try clear hb); obtain ⟨z14_0, z14_1, z14_2, y14_0, y14_1, y14_2⟩ := cf3 BK531.1) | ((with_reducible refine gate_callee (f := 13) rfl ?_); refine gC 23 Try.func13 _ (r43_Source.calls k a0_0 _ _ l0_1 _ _ l0_2 t535 t536 _ (csb HR0_1 HB) HC0_1.1 (csb HR0_2 HB) HC0_2.1 A6.1) ?_; rintro e w15 ⟨rfl, hb⟩; refine ⟨_, rfl, ?_⟩; replace BK531 := bbh BK531 hb; replace HB := bst hb; (try clear hb); obtain ⟨z16_0, z16_1, z16_2, y16_0, y16_1, y16_2⟩ := cf3 BK531.1) | ((with_reducible refine gate_callee (f := 15) rfl ?_); refine gC 28 Try.func15 _ (r43_Sink.calls k a0_0 _ _ l0_1 _ _ l0_2 t537 t538 _ (csb HR0_1 HB) HC0_1.1 (csb HR0_2 HB) HC0_2.1 A7.1) ?_; rintro e w17 ⟨rfl, hb⟩; refine ⟨_, rfl, ?_⟩; replace BK531 := bbh BK531 hb; replace HB := bst hb; (try clear hb)))
 (try simp only [Act.put, List.setIfInBounds_toArray, List.set_cons_zero, List.set_cons_succ])
 go_cut [5] (fun v5 wc => ∃ (kq : Nat) (x5_7 : List (S50)), Aside0 (r43_Problems.j0 kq x5_7 t535 t536 t537 t538 a0_0 l0_1 l0_2 = some (r1, r2)) ∧ Aside0 (kq ≤ k) ∧ Aside0 (Kd.R k50 50 wc w.heap.size (fun _ => True) v5 x5_7) ∧ Aside0 (wc.heap[gb531]? = some (.cells #[.string a0_0, (.slice A0_1 l0_1.length c0_1), (.slice A0_2 l0_2.length c0_2)] 25 (0, 0))) ∧ Aside0 (Below w.heap.size w wc))
 case first =>
  have H := HC8.1
  clear HC8
  by_cases c18 : t536 = true
  ·subst c18
   rw [if_pos rfl] at H
   have H' := am H
   clear H
   go_wp2
   go_meet
   case rel => exact ⟨_, (([] : List (S50))), H', ⟨by first | omega | exact Nat.le_refl _⟩, ⟨knl⟩, ⟨pbk BK531.1⟩, ⟨pbg⟩⟩
  replace c18 := Bool.eq_false_iff.mpr c18
  subst c18
  rw [if_neg Bool.false_ne_true] at H
  replace H := ifp H
  obtain ⟨c19, H⟩ := H
  have LMc19 := am c19
  clear c19
  obtain ⟨y539, hy539⟩ : ∃ y_ : List (S50), y_ = (([] : List (S50)) ++ [(⟨1, 0⟩ : S50)]) := ⟨_, rfl⟩
  replace H : (r43_Problems.j0 k y539 t535 false t537 t538 a0_0 l0_1 l0_2) = some (r1, r2) := hrp hy539 H
  have Ny539 := am hy539
  clear hy539
  have H' := am H
  clear H
  go_wp2_with (first | ((with_reducible refine gate_builtin (b := .append) (xs := #[.tmp 33, .tmp 35]) rfl ?_); at_builtin; refine Kd.R_append k50 (w0 := w) w.heap.size rfl (.tmp 33) (.tmp 35) 32 50 (.agg #[(.int .i64 0), (.int .i64 0)]) 16 rfl Try.underlying32 info50 rfl (by decide) (by omega) (.slice none 0 0) ([] : List (S50)) (⟨1, 0⟩ : S50) [.int .i64 1, .int .i64 0] (fun _ => True) (fun _ => False) rfl rfl ?aP (fun _ hk => hk.elim) ?aF ?aO ?aB ?aS ?aL ?_; (case aP => exact k50_mkM _ _ _ (⟨1, 0⟩ : S50)); (case aB => exact pbg); (case aF => exact (fun _ _ => trivial)); (case aO => exact ((Kd.R_nil _ _ _ _ (fun _ => True)))); (case aS => exact (below_size pbg)); (case aL => have := LMc19.1; omega); intro v540 w20 ho hb hg hat; rw [← Ny539.1] at ho; have HO541 := am ho; replace BK531 := am (blk_grown (g := gb531) (o := .cells #[.string a0_0, .slice A0_1 l0_1.length c0_1, .slice A0_2 l0_2.length c0_2] 25 (0, 0)) (by exact pbk BK531.1) hg (by simp [Value.ownBlock])); replace HB := am hb; clear ho hb hg hat))
  go_meet
  case rel => exact ⟨_, (y539), H', ⟨by first | omega | exact Nat.le_refl _⟩, ⟨pkr HO541.1⟩, ⟨pbk BK531.1⟩, ⟨pbg⟩⟩
 clear HC8
 try clear c3 c3b0 c3b1 c5 c18 c19 z10_0 z10_1 z10_2 z12_0 z12_1 z12_2 z14_0 z14_1 z14_2 z16_0 z16_1 z16_2 y10_0 y10_1 y10_2 y12_0 y12_1 y12_2 y14_0 y14_1 y14_2 y16_0 y16_1 y16_2
 obtain ⟨kq, x5_7, HA, HJ7, HO_5, BK531, HB⟩ := hcut
 obtain _ | kj7 := kq
 ·exact absurd HA.1 (by simp [r43_Problems.j0])
 have H := HA.1
 clear HA
 simp only [r43_Problems.j0] at H
 have HC21 := am H
 clear H
 go_upto_if 38 with (fail)
 go_cut [5] (fun v5 wc => ∃ (kq : Nat) (x5_20 : List (S50)), Aside0 (r43_Problems.j1 kq x5_20 t535 t536 t537 t538 a0_0 l0_1 l0_2 = some (r1, r2)) ∧ Aside0 (kq ≤ kj7) ∧ Aside0 (Kd.R k50 50 wc w.heap.size (fun _ => True) v5 x5_20) ∧ Aside0 (wc.heap[gb531]? = some (.cells #[.string a0_0, (.slice A0_1 l0_1.length c0_1), (.slice A0_2 l0_2.length c0_2)] 25 (0, 0))) ∧ Aside0 (Below w.heap.size w wc))
 case first =>
  have H := HC21.1
  clear HC21
  by_cases c22 : t538 = true
  ·subst c22
   rw [if_pos rfl] at H
   have H' := am H
   clear H
   go_wp2
   go_meet
   case rel => exact ⟨_, (x5_7), H', ⟨by have := HJ7.1; first | omega | exact Nat.le_refl _⟩, ⟨pkr HO_5.1⟩, ⟨pbk BK531.1⟩, ⟨pbg⟩⟩
  replace c22 := Bool.eq_false_iff.mpr c22
  subst c22
  rw [if_neg Bool.false_ne_true] at H
  replace H := ifp H
  obtain ⟨c23, H⟩ := H
  have LMc23 := am c23
  clear c23
  obtain ⟨y542, hy542⟩ : ∃ y_ : List (S50), y_ = (x5_7 ++ [(⟨2, 0⟩ : S50)]) := ⟨_, rfl⟩
  replace H : (r43_Problems.j1 kj7 y542 t535 t536 t537 false a0_0 l0_1 l0_2) = some (r1, r2) := hrp hy542 H
  have Ny542 := am hy542
  clear hy542
  have H' := am H
  clear H
  go_wp2_with (first | ((with_reducible refine gate_builtin (b := .append) (xs := #[.tmp 39, .tmp 41]) rfl ?_); at_builtin; refine Kd.R_append k50 (w0 := w) w.heap.size rfl (.tmp 39) (.tmp 41) 32 50 (.agg #[(.int .i64 0), (.int .i64 0)]) 16 rfl Try.underlying32 info50 rfl (by decide) (by omega) u5 x5_7 (⟨2, 0⟩ : S50) [.int .i64 2, .int .i64 0] (fun _ => True) (fun _ => False) rfl rfl ?aP (fun _ hk => hk.elim) ?aF ?aO ?aB ?aS ?aL ?_; (case aP => exact k50_mkM _ _ _ (⟨2, 0⟩ : S50)); (case aB => exact pbg); (case aF => exact (fun _ _ => trivial)); (case aO => exact (pkr HO_5.1)); (case aS => exact (below_size pbg)); (case aL => have := LMc23.1; omega); intro v543 w24 ho hb hg hat; rw [← Ny542.1] at ho; have HO544 := am ho; replace BK531 := am (blk_grown (g := gb531) (o := .cells #[.string a0_0, .slice A0_1 l0_1.length c0_1, .slice A0_2 l0_2.length c0_2] 25 (0, 0)) (by exact pbk BK531.1) hg (Kd.R_ne HO_5.1 BK531.1 (by decide))); replace HB := am hb; clear HO_5; clear ho hb hg hat))
  go_meet
  case rel => exact ⟨_, (y542), H', ⟨by have := HJ7.1; first | omega | exact Nat.le_refl _⟩, ⟨pkr HO544.1⟩, ⟨pbk BK531.1⟩, ⟨pbg⟩⟩
 clear HC21
 try clear c3 c3b0 c3b1 c5 c18 c19 c22 c23 z10_0 z10_1 z10_2 z12_0 z12_1 z12_2 z14_0 z14_1 z14_2 z16_0 z16_1 z16_2 y10_0 y10_1 y10_2 y12_0 y12_1 y12_2 y14_0 y14_1 y14_2 y16_0 y16_1 y16_2
 obtain ⟨kq, x5_20, HA, HJ20, HO_5, BK531, HB⟩ := hcut
 obtain _ | kj20 := kq
 ·exact absurd HA.1 (by simp [r43_Problems.j1])
 have H := HA.1
 clear HA
 simp only [r43_Problems.j1] at H
 have HC25 := am H
 clear H
 go_upto_region 13 with (fail)
 go_cut [48] (fun v48 wc => ∃ (kq : Nat) (x48_24 : Bool), v48 = .bool x48_24 ∧ Aside0 (r43_Problems.j2 kq x5_20 t535 t537 x48_24 a0_0 l0_1 l0_2 = some (r1, r2)) ∧ Aside0 (kq ≤ kj20) ∧ Aside0 (Kd.R k50 50 wc w.heap.size (fun _ => True) u5 x5_20) ∧ Aside0 (wc.heap[gb531]? = some (.cells #[.string a0_0, (.slice A0_1 l0_1.length c0_1), (.slice A0_2 l0_2.length c0_2)] 25 (0, 0))) ∧ Aside0 (Below w.heap.size w wc))
 case first =>
  have H := HC25.1
  clear HC25
  by_cases c26 : t536 = true
  ·subst c26
   rw [if_pos rfl] at H
   have H' := am H
   clear H
   go_wp2
   go_meet
   case rel => exact ⟨_, (!t538), prs, H', ⟨by have := HJ7.1; have := HJ20.1; first | omega | exact Nat.le_refl _⟩, ⟨pkr HO_5.1⟩, ⟨pbk BK531.1⟩, ⟨pbg⟩⟩
  replace c26 := Bool.eq_false_iff.mpr c26
  subst c26
  rw [if_neg Bool.false_ne_true] at H
  have H' := am H
  clear H
  go_wp2
  go_meet
  case rel => exact ⟨_, (true), prs, H', ⟨by have := HJ7.1; have := HJ20.1; first | omega | exact Nat.le_refl _⟩, ⟨pkr HO_5.1⟩, ⟨pbk BK531.1⟩, ⟨pbg⟩⟩
 clear HC25
 try clear c3 c3b0 c3b1 c5 c18 c19 c22 c23 c26 z10_0 z10_1 z10_2 z12_0 z12_1 z12_2 z14_0 z14_1 z14_2 z16_0 z16_1 z16_2 y10_0 y10_1 y10_2 y12_0 y12_1 y12_2 y14_0 y14_1 y14_2 y16_0 y16_1 y16_2
 obtain ⟨kq, x48_24, rfl, HA, HJ24, HO_5, BK531, HB⟩ := hcut
 obtain _ | kj24 := kq
 ·exact absurd HA.1 (by simp [r43_Problems.j2])
 have H := HA.1
 clear HA
 simp only [r43_Problems.j2] at H
 by_cases c27 : x48_24 = true
 ·subst c27
  rw [if_pos rfl] at H
  simp only [Option.some.injEq, Prod.mk.injEq] at H
  obtain ⟨rfl, rfl⟩ := H
  go_wp2
  go_ret2
  exact ⟨_, per, by (with_reducible repeat (first | apply Kd.R_alloc | apply Kd.R_drewN | apply Kd.R_drew)); exact HO_5.1, pbg⟩
 replace c27 := Bool.eq_false_iff.mpr c27
 subst c27
 rw [if_neg Bool.false_ne_true] at H
 have HC28 := am H
 clear H
 go_upto_if 52 with (fail)
 go_cut [5] (fun v5 wc => ∃ (kq : Nat) (x5_27 : List (S50)), Aside0 (r43_Problems.j3 kq x5_27 t535 t537 a0_0 l0_1 l0_2 = some (r1, r2)) ∧ Aside0 (kq ≤ kj24) ∧ Aside0 (Kd.R k50 50 wc w.heap.size (fun _ => True) v5 x5_27) ∧ Aside0 (wc.heap[gb531]? = some (.cells #[.string a0_0, (.slice A0_1 l0_1.length c0_1), (.slice A0_2 l0_2.length c0_2)] 25 (0, 0))) ∧ Aside0 (Below w.heap.size w wc))
 case first =>
  have H := HC28.1
  clear HC28
  by_cases c29 : t535 = t537
  rotate_left
  ·rw [if_neg c29] at H
   have c29b0 : (t535 == t537) = false := beq_eq_false_iff_ne.mpr c29
   have c29b1 : (t535 != t537) = true := bne_iff_ne.mpr c29
   (first | rw [c29b0] | (simp only [i64_w, i32_w]; rw [c29b0]) | skip)
   have H' := am H
   clear H
   go_wp2
   go_meet
   case rel => exact ⟨_, (x5_20), H', ⟨by have := HJ7.1; have := HJ20.1; have := HJ24.1; first | omega | exact Nat.le_refl _⟩, ⟨pkr HO_5.1⟩, ⟨pbk BK531.1⟩, ⟨pbg⟩⟩
  rw [if_pos c29] at H
  have c29b0 : (t535 == t537) = true := beq_iff_eq.mpr c29
  have c29b1 : (t535 != t537) = false := bne_eq_false_iff_eq.mpr c29
  clear c29
  (first | rw [c29b0] | (simp only [i64_w, i32_w]; rw [c29b0]) | skip)
  replace H := ifp H
  obtain ⟨c30, H⟩ := H
  have LMc30 := am c30
  clear c30
  obtain ⟨y545, hy545⟩ : ∃ y_ : List (S50), y_ = (x5_20 ++ [(⟨3, t535⟩ : S50)]) := ⟨_, rfl⟩
  replace H : (r43_Problems.j3 kj24 y545 t535 t537 a0_0 l0_1 l0_2) = some (r1, r2) := hrp hy545 H
  have Ny545 := am hy545
  clear hy545
  have H' := am H
  clear H
  go_wp2_with (first | ((with_reducible refine gate_builtin (b := .append) (xs := #[.tmp 53, .tmp 56]) rfl ?_); at_builtin; refine Kd.R_append k50 (w0 := w) w.heap.size rfl (.tmp 53) (.tmp 56) 32 50 (.agg #[(.int .i64 0), (.int .i64 0)]) 16 rfl Try.underlying32 info50 rfl (by decide) (by omega) u5 x5_20 (⟨3, t535⟩ : S50) [.int .i64 3, .int .i64 t535] (fun _ => True) (fun _ => False) rfl rfl ?aP (fun _ hk => hk.elim) ?aF ?aO ?aB ?aS ?aL ?_; (case aP => exact k50_mkM _ _ _ (⟨3, t535⟩ : S50)); (case aB => exact pbg); (case aF => exact (fun _ _ => trivial)); (case aO => exact (pkr HO_5.1)); (case aS => exact (below_size pbg)); (case aL => have := LMc30.1; omega); intro v546 w31 ho hb hg hat; rw [← Ny545.1] at ho; have HO547 := am ho; replace BK531 := am (blk_grown (g := gb531) (o := .cells #[.string a0_0, .slice A0_1 l0_1.length c0_1, .slice A0_2 l0_2.length c0_2] 25 (0, 0)) (by exact pbk BK531.1) hg (Kd.R_ne HO_5.1 BK531.1 (by decide))); replace HB := am hb; clear HO_5; clear ho hb hg hat))
  go_meet
  case rel => exact ⟨_, (y545), H', ⟨by have := HJ7.1; have := HJ20.1; have := HJ24.1; first | omega | exact Nat.le_refl _⟩, ⟨pkr HO547.1⟩, ⟨pbk BK531.1⟩, ⟨pbg⟩⟩
 clear HC28
 try clear c3 c3b0 c3b1 c5 c18 c19 c22 c23 c26 c27 c29 c29b0 c29b1 c30 z10_0 z10_1 z10_2 z12_0 z12_1 z12_2 z14_0 z14_1 z14_2 z16_0 z16_1 z16_2 y10_0 y10_1 y10_2 y12_0 y12_1 y12_2 y14_0 y14_1 y14_2 y16_0 y16_1 y16_2
 obtain ⟨kq, x5_27, HA, HJ27, HO_5, BK531, HB⟩ := hcut
 obtain _ | kj27 := kq
 ·exact absurd HA.1 (by simp [r43_Problems.j3])
 have H := HA.1
 clear HA
 simp only [r43_Problems.j3] at H
 replace H := bnd H
 obtain ⟨t548, A32, H⟩ := H
 (try dsimp only at H)
 have H' := am H
 clear H
 obtain ⟨z33_0, z33_1, z33_2, y33_0, y33_1, y33_2⟩ := cf3 BK531.1
 go_wp2_with (first | ((with_reducible refine gate_callee (f := 43) rfl ?_); refine gC 61 Try.func43 _ (r43_off.calls kj27 a0_0 _ _ l0_1 _ _ l0_2 t535 t537 t548 _ (csb HR0_1 HB) HC0_1.1 (csb HR0_2 HB) HC0_2.1 A32.1) ?_; rintro e w34 ⟨v549, rfl, ho0, hb⟩; refine ⟨_, rfl, ?_⟩; have HO550 := am (Kd.R_lower ho0 (below_size pbg)); replace HO_5 := rbw HO_5 hb; replace BK531 := bbh BK531 hb; replace HB := bst hb; (try clear hb); (try clear ho0)))
 go_loopg [5, 11] kj27 (fun kq v5 v11 w' => ∃ (x5_5 : List (S50)) (x11_5 : Int), v11 = .int .i64 x11_5 ∧ Aside0 (r43_Problems.l0 kq x5_5 t548 x11_5 a0_0 l0_1 l0_2 = some (r1, r2)) ∧ Aside0 (kq ≤ kj27) ∧ Aside0 (Kd.R k50 50 w' w.heap.size (fun _ => True) v5 x5_5) ∧ Aside0 (Kd.R (Kd.int .i64) 3 w' w.heap.size (fun _ => True) v549 t548) ∧ Aside0 (w'.heap[gb531]? = some (.cells #[.string a0_0, (.slice A0_1 l0_1.length c0_1), (.slice A0_2 l0_2.length c0_2)] 25 (0, 0))) ∧ Aside0 (Below w.heap.size w w'))
 case atStart => exact ⟨(x5_27), (0), prs, H', ⟨Nat.le_refl _⟩, ⟨pkr HO_5.1⟩, ⟨pkr HO550.1⟩, ⟨pbk BK531.1⟩, ⟨pbg⟩⟩
 clear H'
 try clear c3 c3b0 c3b1 c5 c18 c19 c22 c23 c26 c27 c29 c29b0 c29b1 c30 z10_0 z10_1 z10_2 z12_0 z12_1 z12_2 z14_0 z14_1 z14_2 z16_0 z16_1 z16_2 z33_0 z33_1 z33_2 y10_0 y10_1 y10_2 y12_0 y12_1 y12_2 y14_0 y14_1 y14_2 y16_0 y16_1 y16_2 y33_0 y33_1 y33_2
 obtain ⟨x5_5, x11_5, rfl, HA, HK5, HO_5, HO_10, BK531, HB⟩ := hrel
 obtain _ | k5 := gk
 ·exact absurd HA.1 (by simp [r43_Problems.l0])
 have H := HA.1
 clear HA
 simp only [r43_Problems.l0] at H
 by_cases c35 : x11_5 < (t548.length : Int)
 rotate_left
 ·rw [if_neg c35] at H
  have c35b0 : decide (x11_5 < (t548.length : Int)) = false := decide_eq_false c35
  clear c35
  simp only [Option.some.injEq, Prod.mk.injEq] at H
  obtain ⟨rfl, rfl⟩ := H
  obtain ⟨Ao47, co47, eo47⟩ := Kd.R_slice HO_10.1
  subst eo47
  go_wp2
  go_ret2
  exact ⟨_, per, by (with_reducible repeat (first | apply Kd.R_alloc | apply Kd.R_drewN | apply Kd.R_drew)); exact HO_5.1, pbg⟩
 rw [if_pos c35] at H
 have c35b0 : decide (x11_5 < (t548.length : Int)) = true := decide_eq_true c35
 clear c35
 replace H := ifp H
 obtain ⟨c36, H⟩ := H
 have c36b0 := decide_eq_true c36
 clear c36
 by_cases c37 : (rd t548 x11_5) < (l0_1.length : Int)
 ·rw [if_pos c37] at H
  have c37b0 : decide ((rd t548 x11_5) < (l0_1.length : Int)) = true := decide_eq_true c37
  clear c37
  replace H := ifp H
  obtain ⟨c38, H⟩ := H
  have LMc38 := am c38
  clear c38
  obtain ⟨y553, hy553⟩ : ∃ y_ : List (S50), y_ = (x5_5 ++ [(⟨3, rd t548 x11_5⟩ : S50)]) := ⟨_, rfl⟩
  replace H : (r43_Problems.l0 k5 y553 t548 (wrap64 (x11_5 + 1)) a0_0 l0_1 l0_2) = some (r1, r2) := hrp hy553 H
  have Ny553 := am hy553
  clear hy553
  have H' := am H
  clear H
  obtain ⟨Ao39, co39, eo39⟩ := Kd.R_slice HO_10.1
  subst eo39
  try go_wp2
  replace HO_5 := am (Kd.R_drew HO_5.1)
  replace HO_10 := am (Kd.R_drew HO_10.1)
  replace BK531 := am (blk_drew BK531.1)
  replace HB := am (below_drew1 HB.1)
  obtain ⟨p551, q551, ad551, e551, hx551_0⟩ := dint (Kd.R_reads' HO_10.1).2.2 x11_5
  cases e551
  refine start_ (n := 8) (S := fun w' => w'.cell? ⟨gb531, 0, none⟩ = some (.string a0_0) ∧ w'.cell? ⟨gb531, 1, none⟩ = some (.slice A0_1 l0_1.length c0_1) ∧ w'.cell? ⟨gb531, 2, none⟩ = some (.slice A0_2 l0_2.length c0_2) ∧ w'.cell? (ad551.add (x11_5).toNat) = some (.int .i64 (rd t548 x11_5))) (ds := []) #[false, false, false, false, false, false, false, false] (by kernel_rfl) rfl rfl ⟨(blk_cell BK531.1 0).trans rfl, (blk_cell BK531.1 1).trans rfl, (blk_cell BK531.1 2).trans rfl, hx551_0⟩ (fun hHeld => ?_); refine with_tabW r43_Problems.tab21 r43_Problems.bits21 (fun HT_ HW_ => ?_)
  generalize wr.drew = w40 at HO_5 HO_10 BK531 HB hx551_0 hHeld ⊢
  refine pure_ (i := 0) (N := some 68) (v := ?_) (a' := ?_) #[true, false, false, false, false, false, false, false] rfl rfl (any_of HT_.1 (by kernel_rfl)) (fun _ _ _ h => h) (Or.inl ⟨by rfl, ?_⟩) ?_ ?_
  rotate_left
  ·intro w'
   go_simp
   with_reducible rfl
  rotate_left
  ·simp only [Act.put, List.setIfInBounds_toArray, List.set_cons_zero, List.set_cons_succ, i64_w, i32_w]
   rfl
  refine pure_ (i := 1) (N := some 69) (v := ?_) (a' := ?_) #[true, true, false, false, false, false, false, false] rfl rfl (any_of HT_.1 (by kernel_rfl)) (fun _ _ _ h => h) (Or.inl ⟨by rfl, ?_⟩) ?_ ?_
  rotate_left
  ·intro w'
   go_simp
   with_reducible rfl
  rotate_left
  ·simp only [Act.put, List.setIfInBounds_toArray, List.set_cons_zero, List.set_cons_succ, i64_w, i32_w]
   rfl
  refine pure_ (i := 2) (N := some 70) (v := ?_) (a' := ?_) #[true, true, true, false, false, false, false, false] rfl rfl (any_of HT_.1 (by kernel_rfl)) (fun _ _ _ h => h) (Or.inl ⟨by rfl, ?_⟩) ?_ ?_
  rotate_left
  ·intro w'
   go_simp
   with_reducible rfl
  rotate_left
  ·simp only [Act.put, List.setIfInBounds_toArray, List.set_cons_zero, List.set_cons_succ, i64_w, i32_w]
   rfl
  refine pure_ (i := 4) (N := some 72) (v := ?_) (a' := ?_) #[true, true, true, false, true, false, false, false] rfl rfl (any_of HT_.1 (by kernel_rfl)) (fun _ _ _ h => h) (Or.inl ⟨by rfl, ?_⟩) ?_ ?_
  rotate_left
  ·intro w'
   go_simp
   with_reducible rfl
  rotate_left
  ·simp only [Act.put, List.setIfInBounds_toArray, List.set_cons_zero, List.set_cons_succ, i64_w, i32_w]
   rfl
  refine take_ (i := 3) (N := some 71) (v := ?_) (a' := ?_) #[true, true, true, true, true, false, false, false] rfl rfl (take_ofW HT_.1 HW_.1 (by kernel_rfl)) (fun _ _ _ h => h) (Or.inl ⟨by rfl, ?_⟩) hHeld ?_ ?_
  rotate_left
  ·rintro w' ⟨s0, s1, s2, s3⟩
   go_simp
   with_reducible rfl
  rotate_left
  ·simp only [Act.put, List.setIfInBounds_toArray, List.set_cons_zero, List.set_cons_succ, i64_w, i32_w]
   rfl
  refine take_ (i := 5) (N := some 73) (v := ?_) (a' := ?_) #[true, true, true, true, true, true, false, false] rfl rfl (take_ofW HT_.1 HW_.1 (by kernel_rfl)) (fun _ _ _ h => h) (Or.inl ⟨by rfl, ?_⟩) hHeld ?_ ?_
  rotate_left
  ·rintro w' ⟨s0, s1, s2, s3⟩
   go_simp
   with_reducible rfl
  rotate_left
  ·simp only [Act.put, List.setIfInBounds_toArray, List.set_cons_zero, List.set_cons_succ, i64_w, i32_w]
   rfl
  refine pure_ (i := 6) (N := some 74) (v := ?_) (a' := ?_) #[true, true, true, true, true, true, true, false] rfl rfl (any_of HT_.1 (by kernel_rfl)) (fun _ _ _ h => h) (Or.inl ⟨by rfl, ?_⟩) ?_ ?_
  rotate_left
  ·intro w'
   go_simp
   with_reducible rfl
  rotate_left
  ·simp only [Act.put, List.setIfInBounds_toArray, List.set_cons_zero, List.set_cons_succ, i64_w, i32_w]
   rfl
  refine pure_ (i := 7) (N := some 75) (v := ?_) (a' := ?_) #[true, true, true, true, true, true, true, true] rfl rfl (any_of HT_.1 (by kernel_rfl)) (fun _ _ _ h => h) (Or.inl ⟨by rfl, ?_⟩) ?_ ?_
  rotate_left
  ·intro w'
   go_simp
   with_reducible rfl
  rotate_left
  ·simp only [Act.put, List.setIfInBounds_toArray, List.set_cons_zero, List.set_cons_succ, i64_w, i32_w]
   rfl
  refine done_ (done_of HT_.1 (by kernel_rfl)) ?_
  obtain ⟨p552, q552, ad552, e552, hx552_0⟩ := dint (Kd.R_reads' HO_10.1).2.2 x11_5
  obtain rfl : ad551 = ad552 := (by injection e552)
  try go_wp2_with (first | ((with_reducible refine gate_builtin (b := .append) (xs := #[.tmp 76, .tmp 82]) rfl ?_); at_builtin; refine Kd.R_append k50 (w0 := w) w.heap.size rfl (.tmp 76) (.tmp 82) 32 50 (.agg #[(.int .i64 0), (.int .i64 0)]) 16 rfl Try.underlying32 info50 rfl (by decide) (by omega) u5 x5_5 (⟨3, rd t548 x11_5⟩ : S50) [.int .i64 3, .int .i64 (rd t548 x11_5)] (fun _ => True) (fun _ => False) rfl rfl ?aP (fun _ hk => hk.elim) ?aF ?aO ?aB ?aS ?aL ?_; (case aP => exact k50_mkM _ _ _ (⟨3, rd t548 x11_5⟩ : S50)); (case aB => exact pbg); (case aF => exact (fun _ _ => trivial)); (case aO => exact (pkr HO_5.1)); (case aS => exact (below_size pbg)); (case aL => have := LMc38.1; omega); intro v554 w41 ho hb hg hat; rw [← Ny553.1] at ho; have HO555 := am ho; replace HO_10 := am (Kd.R_over' (pkr HO_10.1) (Kd.R_typed (pkr HO_5.1)) (by decide) hg); replace BK531 := am (blk_grown (g := gb531) (o := .cells #[.string a0_0, .slice A0_1 l0_1.length c0_1, .slice A0_2 l0_2.length c0_2] 25 (0, 0)) (by exact pbk BK531.1) hg (Kd.R_ne HO_5.1 BK531.1 (by decide))); replace HB := am hb; clear HO_5; clear ho hb hg hat))
  go_roundg k5
  case measure => have := HJ7.1; have := HJ20.1; have := HJ24.1; have := HJ27.1; have := HK5.1; omega
  case rel => exact ⟨(y553), (wrap64 (x11_5 + 1)), prs, H', ⟨by have := HJ7.1; have := HJ20.1; have := HJ24.1; have := HJ27.1; have := HK5.1; omega⟩, ⟨pkr HO555.1⟩, ⟨pkr HO_10.1⟩, ⟨pbk BK531.1⟩, ⟨pbg⟩⟩
 rw [if_neg c37] at H
 have c37b0 : decide ((rd t548 x11_5) < (l0_1.length : Int)) = false := decide_eq_false c37
 clear c37
 replace H := ifp H
 obtain ⟨c42, H⟩ := H
 have LMc42 := am c42
 clear c42
 obtain ⟨y557, hy557⟩ : ∃ y_ : List (S50), y_ = (x5_5 ++ [(⟨4, wrap64 ((rd t548 x11_5) - (l0_1.length : Int))⟩ : S50)]) := ⟨_, rfl⟩
 replace H : (r43_Problems.l0 k5 y557 t548 (wrap64 (x11_5 + 1)) a0_0 l0_1 l0_2) = some (r1, r2) := hrp hy557 H
 have Ny557 := am hy557
 clear hy557
 have H' := am H
 clear H
 obtain ⟨Ao43, co43, eo43⟩ := Kd.R_slice HO_10.1
 subst eo43
 try go_wp2
 replace HO_5 := am (Kd.R_drew HO_5.1)
 replace HO_10 := am (Kd.R_drew HO_10.1)
 replace BK531 := am (blk_drew BK531.1)
 replace HB := am (below_drew1 HB.1)
 obtain ⟨p551, q551, ad551, e551, hx551_0⟩ := dint (Kd.R_reads' HO_10.1).2.2 x11_5
 cases e551
 refine start_ (n := 8) (S := fun w' => w'.cell? ⟨gb531, 0, none⟩ = some (.string a0_0) ∧ w'.cell? ⟨gb531, 1, none⟩ = some (.slice A0_1 l0_1.length c0_1) ∧ w'.cell? ⟨gb531, 2, none⟩ = some (.slice A0_2 l0_2.length c0_2) ∧ w'.cell? (ad551.add (x11_5).toNat) = some (.int .i64 (rd t548 x11_5))) (ds := []) #[false, false, false, false, false, false, false, false] (by kernel_rfl) rfl rfl ⟨(blk_cell BK531.1 0).trans rfl, (blk_cell BK531.1 1).trans rfl, (blk_cell BK531.1 2).trans rfl, hx551_0⟩ (fun hHeld => ?_); refine with_tabW r43_Problems.tab21 r43_Problems.bits21 (fun HT_ HW_ => ?_)
 generalize wr.drew = w44 at HO_5 HO_10 BK531 HB hx551_0 hHeld ⊢
 refine pure_ (i := 0) (N := some 68) (v := ?_) (a' := ?_) #[true, false, false, false, false, false, false, false] rfl rfl (any_of HT_.1 (by kernel_rfl)) (fun _ _ _ h => h) (Or.inl ⟨by rfl, ?_⟩) ?_ ?_
 rotate_left
 ·intro w'
  go_simp
  with_reducible rfl
 rotate_left
 ·simp only [Act.put, List.setIfInBounds_toArray, List.set_cons_zero, List.set_cons_succ, i64_w, i32_w]
  rfl
 refine pure_ (i := 1) (N := some 69) (v := ?_) (a' := ?_) #[true, true, false, false, false, false, false, false] rfl rfl (any_of HT_.1 (by kernel_rfl)) (fun _ _ _ h => h) (Or.inl ⟨by rfl, ?_⟩) ?_ ?_
 rotate_left
 ·intro w'
  go_simp
  with_reducible rfl
 rotate_left
 ·simp only [Act.put, List.setIfInBounds_toArray, List.set_cons_zero, List.set_cons_succ, i64_w, i32_w]
  rfl
 refine pure_ (i := 2) (N := some 70) (v := ?_) (a' := ?_) #[true, true, true, false, false, false, false, false] rfl rfl (any_of HT_.1 (by kernel_rfl)) (fun _ _ _ h => h) (Or.inl ⟨by rfl, ?_⟩) ?_ ?_
 rotate_left
 ·intro w'
  go_simp
  with_reducible rfl
 rotate_left
 ·simp only [Act.put, List.setIfInBounds_toArray, List.set_cons_zero, List.set_cons_succ, i64_w, i32_w]
  rfl
 refine pure_ (i := 4) (N := some 72) (v := ?_) (a' := ?_) #[true, true, true, false, true, false, false, false] rfl rfl (any_of HT_.1 (by kernel_rfl)) (fun _ _ _ h => h) (Or.inl ⟨by rfl, ?_⟩) ?_ ?_
 rotate_left
 ·intro w'
  go_simp
  with_reducible rfl
 rotate_left
 ·simp only [Act.put, List.setIfInBounds_toArray, List.set_cons_zero, List.set_cons_succ, i64_w, i32_w]
  rfl
 refine take_ (i := 3) (N := some 71) (v := ?_) (a' := ?_) #[true, true, true, true, true, false, false, false] rfl rfl (take_ofW HT_.1 HW_.1 (by kernel_rfl)) (fun _ _ _ h => h) (Or.inl ⟨by rfl, ?_⟩) hHeld ?_ ?_
 rotate_left
 ·rintro w' ⟨s0, s1, s2, s3⟩
  go_simp
  with_reducible rfl
 rotate_left
 ·simp only [Act.put, List.setIfInBounds_toArray, List.set_cons_zero, List.set_cons_succ, i64_w, i32_w]
  rfl
 refine take_ (i := 5) (N := some 73) (v := ?_) (a' := ?_) #[true, true, true, true, true, true, false, false] rfl rfl (take_ofW HT_.1 HW_.1 (by kernel_rfl)) (fun _ _ _ h => h) (Or.inl ⟨by rfl, ?_⟩) hHeld ?_ ?_
 rotate_left
 ·rintro w' ⟨s0, s1, s2, s3⟩
  go_simp
  with_reducible rfl
 rotate_left
 ·simp only [Act.put, List.setIfInBounds_toArray, List.set_cons_zero, List.set_cons_succ, i64_w, i32_w]
  rfl
 refine pure_ (i := 6) (N := some 74) (v := ?_) (a' := ?_) #[true, true, true, true, true, true, true, false] rfl rfl (any_of HT_.1 (by kernel_rfl)) (fun _ _ _ h => h) (Or.inl ⟨by rfl, ?_⟩) ?_ ?_
 rotate_left
 ·intro w'
  go_simp
  with_reducible rfl
 rotate_left
 ·simp only [Act.put, List.setIfInBounds_toArray, List.set_cons_zero, List.set_cons_succ, i64_w, i32_w]
  rfl
 refine pure_ (i := 7) (N := some 75) (v := ?_) (a' := ?_) #[true, true, true, true, true, true, true, true] rfl rfl (any_of HT_.1 (by kernel_rfl)) (fun _ _ _ h => h) (Or.inl ⟨by rfl, ?_⟩) ?_ ?_
 rotate_left
 ·intro w'
  go_simp
  with_reducible rfl
 rotate_left
 ·simp only [Act.put, List.setIfInBounds_toArray, List.set_cons_zero, List.set_cons_succ, i64_w, i32_w]
  rfl
 refine done_ (done_of HT_.1 (by kernel_rfl)) ?_
 try go_wp2
 replace HO_5 := am (Kd.R_drew HO_5.1)
 replace HO_10 := am (Kd.R_drew HO_10.1)
 replace BK531 := am (blk_drew BK531.1)
 replace HB := am (below_drew1 HB.1)
 obtain ⟨p556, q556, ad556, e556, hx556_0⟩ := dint (Kd.R_reads' HO_10.1).2.2 x11_5
 obtain rfl : ad551 = ad556 := (by injection e556)
 refine start_ (n := 13) (S := fun w' => w'.cell? ⟨gb531, 0, none⟩ = some (.string a0_0) ∧ w'.cell? ⟨gb531, 1, none⟩ = some (.slice A0_1 l0_1.length c0_1) ∧ w'.cell? ⟨gb531, 2, none⟩ = some (.slice A0_2 l0_2.length c0_2) ∧ w'.cell? (ad551.add (x11_5).toNat) = some (.int .i64 (rd t548 x11_5))) (ds := [10, 11]) #[false, false, false, false, false, false, false, false, false, false, false, false, false] (by kernel_rfl) rfl rfl ⟨(blk_cell BK531.1 0).trans rfl, (blk_cell BK531.1 1).trans rfl, (blk_cell BK531.1 2).trans rfl, hx556_0⟩ (fun hHeld => ?_); refine with_tabW r43_Problems.tab23 r43_Problems.bits23 (fun HT_ HW_ => ?_)
 generalize w44.drew = w45 at HO_5 HO_10 BK531 HB hx556_0 hHeld ⊢
 refine pure_ (i := 0) (N := some 84) (v := ?_) (a' := ?_) #[true, false, false, false, false, false, false, false, false, false, false, false, false] rfl rfl (any_of HT_.1 (by kernel_rfl)) (fun _ _ _ h => h) (Or.inl ⟨by rfl, ?_⟩) ?_ ?_
 rotate_left
 ·intro w'
  go_simp
  with_reducible rfl
 rotate_left
 ·simp only [Act.put, List.setIfInBounds_toArray, List.set_cons_zero, List.set_cons_succ, i64_w, i32_w]
  rfl
 refine pure_ (i := 1) (N := some 85) (v := ?_) (a' := ?_) #[true, true, false, false, false, false, false, false, false, false, false, false, false] rfl rfl (any_of HT_.1 (by kernel_rfl)) (fun _ _ _ h => h) (Or.inl ⟨by rfl, ?_⟩) ?_ ?_
 rotate_left
 ·intro w'
  go_simp
  with_reducible rfl
 rotate_left
 ·simp only [Act.put, List.setIfInBounds_toArray, List.set_cons_zero, List.set_cons_succ, i64_w, i32_w]
  rfl
 refine pure_ (i := 2) (N := some 86) (v := ?_) (a' := ?_) #[true, true, true, false, false, false, false, false, false, false, false, false, false] rfl rfl (any_of HT_.1 (by kernel_rfl)) (fun _ _ _ h => h) (Or.inl ⟨by rfl, ?_⟩) ?_ ?_
 rotate_left
 ·intro w'
  go_simp
  with_reducible rfl
 rotate_left
 ·simp only [Act.put, List.setIfInBounds_toArray, List.set_cons_zero, List.set_cons_succ, i64_w, i32_w]
  rfl
 refine pure_ (i := 3) (N := some 87) (v := ?_) (a' := ?_) #[true, true, true, true, false, false, false, false, false, false, false, false, false] rfl rfl (any_of HT_.1 (by kernel_rfl)) (fun _ _ _ h => h) (Or.inl ⟨by rfl, ?_⟩) ?_ ?_
 rotate_left
 ·intro w'
  go_simp
  with_reducible rfl
 rotate_left
 ·simp only [Act.put, List.setIfInBounds_toArray, List.set_cons_zero, List.set_cons_succ, i64_w, i32_w]
  rfl
 refine pure_ (i := 5) (N := some 89) (v := ?_) (a' := ?_) #[true, true, true, true, false, true, false, false, false, false, false, false, false] rfl rfl (any_of HT_.1 (by kernel_rfl)) (fun _ _ _ h => h) (Or.inl ⟨by rfl, ?_⟩) ?_ ?_
 rotate_left
 ·intro w'
  go_simp
  with_reducible rfl
 rotate_left
 ·simp only [Act.put, List.setIfInBounds_toArray, List.set_cons_zero, List.set_cons_succ, i64_w, i32_w]
  rfl
 refine take_ (i := 4) (N := some 88) (v := ?_) (a' := ?_) #[true, true, true, true, true, true, false, false, false, false, false, false, false] rfl rfl (take_ofW HT_.1 HW_.1 (by kernel_rfl)) (fun _ _ _ h => h) (Or.inl ⟨by rfl, ?_⟩) hHeld ?_ ?_
 rotate_left
 ·rintro w' ⟨s0, s1, s2, s3⟩
  go_simp
  with_reducible rfl
 rotate_left
 ·simp only [Act.put, List.setIfInBounds_toArray, List.set_cons_zero, List.set_cons_succ, i64_w, i32_w]
  rfl
 refine take_ (i := 6) (N := some 90) (v := ?_) (a' := ?_) #[true, true, true, true, true, true, true, false, false, false, false, false, false] rfl rfl (take_ofW HT_.1 HW_.1 (by kernel_rfl)) (fun _ _ _ h => h) (Or.inl ⟨by rfl, ?_⟩) hHeld ?_ ?_
 rotate_left
 ·rintro w' ⟨s0, s1, s2, s3⟩
  go_simp
  with_reducible rfl
 rotate_left
 ·simp only [Act.put, List.setIfInBounds_toArray, List.set_cons_zero, List.set_cons_succ, i64_w, i32_w]
  rfl
 refine pure_ (i := 7) (N := some 91) (v := ?_) (a' := ?_) #[true, true, true, true, true, true, true, true, false, false, false, false, false] rfl rfl (any_of HT_.1 (by kernel_rfl)) (fun _ _ _ h => h) (Or.inl ⟨by rfl, ?_⟩) ?_ ?_
 rotate_left
 ·intro w'
  go_simp
  with_reducible rfl
 rotate_left
 ·simp only [Act.put, List.setIfInBounds_toArray, List.set_cons_zero, List.set_cons_succ, i64_w, i32_w]
  rfl
 refine pure_ (i := 8) (N := some 92) (v := ?_) (a' := ?_) #[true, true, true, true, true, true, true, true, true, false, false, false, false] rfl rfl (any_of HT_.1 (by kernel_rfl)) (fun _ _ _ h => h) (Or.inl ⟨by rfl, ?_⟩) ?_ ?_
 rotate_left
 ·intro w'
  go_simp
  with_reducible rfl
 rotate_left
 ·simp only [Act.put, List.setIfInBounds_toArray, List.set_cons_zero, List.set_cons_succ, i64_w, i32_w]
  rfl
 refine pure_ (i := 9) (N := some 93) (v := ?_) (a' := ?_) #[true, true, true, true, true, true, true, true, true, true, false, false, false] rfl rfl (any_of HT_.1 (by kernel_rfl)) (fun _ _ _ h => h) (Or.inl ⟨by rfl, ?_⟩) ?_ ?_
 rotate_left
 ·intro w'
  go_simp
  with_reducible rfl
 rotate_left
 ·simp only [Act.put, List.setIfInBounds_toArray, List.set_cons_zero, List.set_cons_succ, i64_w, i32_w]
  rfl
 refine last_ (i := 10) (N := some 94) #[true, true, true, true, true, true, true, true, true, true, true, false, false] rfl rfl (one_of HT_.1 (by kernel_rfl)) (by decide) (fun K hK => ?_)
 refine value_ (w1 := ?_) (v := ?_) (by rfl) rfl ?_ ?_
 rotate_left 2
 ·go_simp
  constructor
  ·rfl
  ·rfl
 refine hK.out _ _ ?_
 clear hK K
 refine norm_ (a' := ?_) ?_ ?_
 rotate_left
 ·show Act.put _ (some 94) _ = _
  simp only [Act.put, List.setIfInBounds_toArray, List.set_cons_zero, List.set_cons_succ, i64_w, i32_w]
  rfl
 refine last_ (i := 11) (N := some 95) #[true, true, true, true, true, true, true, true, true, true, true, true, false] rfl rfl (one_of HT_.1 (by kernel_rfl)) (by decide) (fun K hK => ?_)
 refine Kd.R_append_step k50 (w0 := w) w.heap.size (by rfl) (.tmp 84) (.tmp 94) 32 50 (.agg #[(.int .i64 0), (.int .i64 0)]) 16 rfl Try.underlying32 info50 rfl (by decide) (by omega) u5 x5_5 (⟨4, wrap64 ((rd t548 x11_5) - (l0_1.length : Int))⟩ : S50) [.int .i64 4, .int .i64 (wrap64 ((rd t548 x11_5) - (l0_1.length : Int)))] (fun _ => True) (fun _ => False) rfl rfl ?aP (fun _ hk => hk.elim) ?aF ?aO ?aB ?aS ?aL ?_
 (case aP => exact k50_mkM _ _ _ (⟨4, wrap64 ((rd t548 x11_5) - (l0_1.length : Int))⟩ : S50))
 (case aB => exact pbg)
 (case aF => exact (fun _ _ => trivial))
 (case aO => exact (pkr HO_5.1))
 (case aS => exact (below_size pbg))
 (case aL => have := LMc42.1; omega)
 intro v558 w46 ho hb hg hat
 rw [← Ny557.1] at ho
 have n0_ := am (Kd.R_over' (pkr HO_10.1) (Kd.R_typed (pkr HO_5.1)) (by decide) hg)
 have n1_ := am (blk_grown (g := gb531) (o := .cells #[.string a0_0, .slice A0_1 l0_1.length c0_1, .slice A0_2 l0_2.length c0_2] 25 (0, 0)) (by exact pbk BK531.1) hg (Kd.R_ne HO_5.1 BK531.1 (by decide)))
 have n2_ := am hb
 have n3_ := am ho
 clear HO_10 BK531 HB HO_5
 have HO_10 := n0_
 have BK531 := n1_
 have HB := n2_
 have HO559 := n3_
 clear n0_ n1_ n2_ n3_ ho hb hg hat
 refine hK.out _ _ ?_
 clear hK K
 refine norm_ (a' := ?_) ?_ ?_
 rotate_left
 ·show Act.put _ (some 95) _ = _
  simp only [Act.put, List.setIfInBounds_toArray, List.set_cons_zero, List.set_cons_succ, i64_w, i32_w]
  rfl
 refine pure_ (i := 12) (N := some 5) (v := ?_) (a' := ?_) #[true, true, true, true, true, true, true, true, true, true, true, true, true] rfl rfl (any_of HT_.1 (by kernel_rfl)) (fun _ _ _ h => h) (Or.inl ⟨by rfl, ?_⟩) ?_ ?_
 rotate_left
 ·intro w'
  go_simp
  with_reducible rfl
 rotate_left
 ·simp only [Act.put, List.setIfInBounds_toArray, List.set_cons_zero, List.set_cons_succ, i64_w, i32_w]
  rfl
 refine done_ (done_of HT_.1 (by kernel_rfl)) ?_
 try go_wp2
 go_roundg k5
 case measure => have := HJ7.1; have := HJ20.1; have := HJ24.1; have := HJ27.1; have := HK5.1; omega
 case rel => exact ⟨(y557), (wrap64 (x11_5 + 1)), prs, H', ⟨by have := HJ7.1; have := HJ20.1; have := HJ24.1; have := HJ27.1; have := HK5.1; omega⟩, ⟨pkr HO559.1⟩, ⟨pkr HO_10.1⟩, ⟨pbk BK531.1⟩, ⟨pbg⟩⟩

end Go.Proofs.Ytnoebjmhimehcaa.P
