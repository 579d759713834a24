-- LAID BY OUR PROGRAM OVER THE PRINT (xprint.py, part.py): Lean checks it.
import Derived.Test.YtnoebjmhimehcaaPx0
import Derived.Test.YtnoebjmhimehcaaPx1
import Derived.Test.YtnoebjmhimehcaaPx6
import Derived.Test.YtnoebjmhimehcaaPx7
namespace Go.Proofs.Ytnoebjmhimehcaa.P
open Go.RowKit Go.Proofs.YtnoebjmhimehcaaW.PrintWords Go.Proofs.YtnoebjmhimehcaaW.PrintLast Go.Proofs.YtnoebjmhimehcaaW.PrintMore
attribute [local go_sem] max2_int min2_int max_two min_two max_three min_three max_four min_four   -- for this text's walks alone
set_option linter.unusedVariables false
set_option linter.unusedSimpArgs false

/-! ### petrinetlaw43_lives: function 11 -/
attribute [local go_sem high] eqA50
def petrinetlaw43_lives.j0 : Nat → Int → List Int → Int → Int → Bool → ByteArray → List (S52) → ByteArray → List (S52) → List (S48) → ByteArray → List (S52) → List (S48) → Option (Bool)
 | 0, _, _, _, _, _, _, _, _, _, _, _, _, _ => none
 | k + 1, x10, x11, x12, x14, x90, x321000, x321001, x338000, x338001, x338002, x351000, x351001, x351002 => if x90 = true then (none) else (if (x338001.length : Int) = 2 then (if 0 < (x338001.length : Int) then (if ((rd_T52 x338001 0).f1) = 1 then (if 1 < (x338001.length : Int) then (if ((rd_T52 x338001 1).f1) = 0 then (if x10 = 0 then (if (x11.length : Int) = 2 then (if 0 < (x11.length : Int) then (if (rd x11 0) = 0 then (if 1 < (x11.length : Int) then (if (rd x11 1) = 1 then (if x12 = 0 then (if (x351002.length : Int) = 2 then (if 1 < (x351002.length : Int) then (if ((rd_T48 x351002 1).f0).toList = ([95, 99, 108, 111, 115, 101] : List UInt8) then (if x14 = 0 then ((workflow_Close.f k x321000 x321001 ([] : List (S48))).bind fun bt359 => (some (bt359.2.2.2 == 15))) else (none)) else (none)) else (none)) else (none)) else (none)) else (none)) else (none)) else (none)) else (none)) else (none)) else (none)) else (none)) else (none)) else (none)) else (none)) else (none))
def petrinetlaw43_lives.f (k : Nat)  : Option (Bool) := (petrinetlaw43_line.f).bind fun bt307 => (if 1 ≤ (bt307.2.1.length : Int) then ((some (bt307.2.1.take 1 : List (S52))).bind fun y315 => ((workflow_Source.f k bt307.1 bt307.2.1 bt307.2.2).bind fun bt321 => ((workflow_Sink.f k bt307.1 bt307.2.1 bt307.2.2).bind fun bt323 => ((workflow_Problems.f k (⟨#[110]⟩ : ByteArray) y315 ([] : List (S48))).bind fun bt325 => ((workflow_Prepare.f k bt307.1 bt307.2.1 bt307.2.2).bind fun bt329 => ((workflow_Final.f k bt307.1 bt307.2.1 bt307.2.2).bind fun bt338 => ((workflow_Close.f k bt307.1 bt307.2.1 bt307.2.2).bind fun bt342 => (if bt321.1 = 0 then (if bt321.2 = true then (if bt323.1 = 1 then (if bt323.2 = true then ((workflow_Is.f k bt307.1 bt307.2.1 bt307.2.2).bind fun t351 => (if t351 = true then ((workflow_Is.f k (⟨#[110]⟩ : ByteArray) y315 ([] : List (S48))).bind fun t352 => (if t352 = true then (none) else (if (bt325.1.length : Int) = 1 then (if 0 < (bt325.1.length : Int) then (if (!(((rd_T50 bt325.1 0).f0) == 3) || (!(((rd_T50 bt325.1 0).f1) == 0))) = true then (none) else (petrinetlaw43_lives.j0 k bt329.2.2.2 bt338.1 bt338.2 bt342.2.2.2 (bt325.2 != 0) (⟨#[110]⟩ : ByteArray) y315 bt329.1 bt329.2.1 bt329.2.2.1 bt342.1 bt342.2.1 bt342.2.2.1)) else (none)) else (none)))) else (none))) else (none)) else (none)) else (none)) else (none))))))))) else (none))
theorem petrinetlaw43_lives.mono_l : ∀ k, M13 petrinetlaw43_lives.j0 k
 | 0 => fun _ _ _ _ _ _ _ _ _ _ _ _ _ r h => by simp [petrinetlaw43_lives.j0] at h
 | k + 1 => by
  have ih0 := petrinetlaw43_lives.mono_l k
  ·intro y0 y1 y2 y3 y4 y5 y6 y7 y8 y9 y10 y11 y12
   unfold petrinetlaw43_lives.j0
   repeat' first | (with_reducible first | apply ih0 | apply workflow_Close.mono | apply workflow_Final.mono | apply workflow_Is.mono | apply workflow_Prepare.mono | apply workflow_Problems.mono | apply workflow_Sink.mono | apply workflow_Source.mono | apply lr | apply ln | apply li | refine lb ?_ fun _ => ?_)
theorem petrinetlaw43_lives.mono : ∀ k, LeO (petrinetlaw43_lives.f k ) (petrinetlaw43_lives.f (k + 1) ) := by
 intro  k
 have ih0 := petrinetlaw43_lives.mono_l k
 unfold petrinetlaw43_lives.f
 repeat' first | (with_reducible first | apply ih0 | apply workflow_Close.mono | apply workflow_Final.mono | apply workflow_Is.mono | apply workflow_Prepare.mono | apply workflow_Problems.mono | apply workflow_Sink.mono | apply workflow_Source.mono | apply lr | apply ln | apply li | refine lb ?_ fun _ => ?_)
set_option maxHeartbeats 8000000 in
set_option maxRecDepth 100000 in
theorem petrinetlaw43_lives.calls (k : Nat)  (r : Bool) (w : World) (h : petrinetlaw43_lives.f k  = some r) :
  Calls Try.prog 11 #[] w fun e w' => e = .returned (.bool r) ∧ Below w.heap.size w w' := by
 have hu25 := Try.underlying25
 have hu50 := Try.underlying50
 have HB := am (Below.refl w.heap.size w)
 have H : ((petrinetlaw43_line.f).bind fun bt307 => (if 1 ≤ (bt307.2.1.length : Int) then ((some (bt307.2.1.take 1 : List (S52))).bind fun y315 => ((workflow_Source.f k bt307.1 bt307.2.1 bt307.2.2).bind fun bt321 => ((workflow_Sink.f k bt307.1 bt307.2.1 bt307.2.2).bind fun bt323 => ((workflow_Problems.f k (⟨#[110]⟩ : ByteArray) y315 ([] : List (S48))).bind fun bt325 => ((workflow_Prepare.f k bt307.1 bt307.2.1 bt307.2.2).bind fun bt329 => ((workflow_Final.f k bt307.1 bt307.2.1 bt307.2.2).bind fun bt338 => ((workflow_Close.f k bt307.1 bt307.2.1 bt307.2.2).bind fun bt342 => (if bt321.1 = 0 then (if bt321.2 = true then (if bt323.1 = 1 then (if bt323.2 = true then ((workflow_Is.f k bt307.1 bt307.2.1 bt307.2.2).bind fun t351 => (if t351 = true then ((workflow_Is.f k (⟨#[110]⟩ : ByteArray) y315 ([] : List (S48))).bind fun t352 => (if t352 = true then (none) else (if (bt325.1.length : Int) = 1 then (if 0 < (bt325.1.length : Int) then (if (!(((rd_T50 bt325.1 0).f0) == 3) || (!(((rd_T50 bt325.1 0).f1) == 0))) = true then (none) else (petrinetlaw43_lives.j0 k bt329.2.2.2 bt338.1 bt338.2 bt342.2.2.2 (bt325.2 != 0) (⟨#[110]⟩ : ByteArray) y315 bt329.1 bt329.2.1 bt329.2.2.1 bt342.1 bt342.2.1 bt342.2.2.1)) else (none)) else (none)))) else (none))) else (none)) else (none)) else (none)) else (none))))))))) else (none))) = some r := h
 clear h
 replace H := bnd H
 obtain ⟨⟨t307, t308, t311⟩, A1, H⟩ := H
 (try dsimp only at H)
 replace H := ifp H
 obtain ⟨c2, H⟩ := H
 have c2b0 := eq_true c2
 have c2b1 : decide (1 ≤ (t308.length : Int)) = true := decide_eq_true c2
 clear c2
 obtain ⟨y315, hy315⟩ : ∃ y_ : List (S52), y_ = (t308.take 1) := ⟨_, rfl⟩
 replace H : ((workflow_Source.f k t307 t308 t311).bind fun bt321 => ((workflow_Sink.f k t307 t308 t311).bind fun bt323 => ((workflow_Problems.f k (⟨#[110]⟩ : ByteArray) y315 ([] : List (S48))).bind fun bt325 => ((workflow_Prepare.f k t307 t308 t311).bind fun bt329 => ((workflow_Final.f k t307 t308 t311).bind fun bt338 => ((workflow_Close.f k t307 t308 t311).bind fun bt342 => (if bt321.1 = 0 then (if bt321.2 = true then (if bt323.1 = 1 then (if bt323.2 = true then ((workflow_Is.f k t307 t308 t311).bind fun t351 => (if t351 = true then ((workflow_Is.f k (⟨#[110]⟩ : ByteArray) y315 ([] : List (S48))).bind fun t352 => (if t352 = true then (none) else (if (bt325.1.length : Int) = 1 then (if 0 < (bt325.1.length : Int) then (if (!(((rd_T50 bt325.1 0).f0) == 3) || (!(((rd_T50 bt325.1 0).f1) == 0))) = true then (none) else (petrinetlaw43_lives.j0 k bt329.2.2.2 bt338.1 bt338.2 bt342.2.2.2 (bt325.2 != 0) (⟨#[110]⟩ : ByteArray) y315 bt329.1 bt329.2.1 bt329.2.2.1 bt342.1 bt342.2.1 bt342.2.2.1)) else (none)) else (none)))) else (none))) else (none)) else (none)) else (none)) else (none)))))))) = some r := hrp hy315 H
 have Ny315 := am hy315
 clear hy315
 replace H := bnd H
 obtain ⟨⟨t321, t322⟩, A3, H⟩ := H
 (try dsimp only at H)
 replace H := bnd H
 obtain ⟨⟨t323, t324⟩, A4, H⟩ := H
 (try dsimp only at H)
 replace H := bnd H
 obtain ⟨⟨t325, t328⟩, A5, H⟩ := H
 (try dsimp only at H)
 replace H := bnd H
 obtain ⟨⟨t329, t330, t333, t336⟩, A6, H⟩ := H
 (try dsimp only at H)
 replace H := bnd H
 obtain ⟨⟨t338, t341⟩, A7, H⟩ := H
 (try dsimp only at H)
 replace H := bnd H
 obtain ⟨⟨t342, t343, t346, t349⟩, A8, H⟩ := H
 (try dsimp only at H)
 have HC9 := am H
 clear H
 go_enter Try.func11, Try.ntmps11
 go_upto_region 9 with (first | ((with_reducible refine gate_callee (f := 34) rfl ?_); refine gC 17 Try.func34 _ (petrinetlaw43_line.calls  t307 t308 t311 _ A1.1) ?_; rintro e w10 ⟨v309, v312, rfl, ho0, ho1, hb⟩; refine ⟨_, rfl, ?_⟩; have HO310 := am (Kd.R_lower (Kd.R_mono (ok' := fun k_ => True) ho0 (fun _ hk_ => trivial)) (below_size pbl)); have HO313 := am (Kd.N_lower (Kd.N_mono (ok' := fun k_ => some k_ ≠ (v309 : Value).ownBlock) ho1 (fun k_ hk_ => hk_.2)) (below_size pbl)); replace HB := bsl hb; (try clear hb); (try clear ho0); (try clear ho1)) | ((with_reducible refine gate_dst (N := 1) rfl ?_); (try (refine gate_guard (by rfl) ?_; dsimp only)); refine box_ev (N := 1) (cs := #[.string (⟨#[]⟩ : ByteArray), .slice none 0 0, .slice none 0 0]) (t := 25) ?_; intro gb314 hg w11 hbox hb; have BK314 := am hbox; have GW314 := gwl hg; have GE314 := GW314; replace HO310 := rbw HO310 hb; replace HO313 := am (Kd.N_below (Kd.N_elderB (pkn HO313.1) gb314 (Nat.le_of_eq hg.symm)) hb); replace HB := bsl hb; clear hb hbox hg; obtain ⟨z12_0, z12_1, z12_2, y12_0, y12_1, y12_2⟩ := cf3 BK314.1; obtain ⟨Ao13, co13, eo13⟩ := Kd.R_slice HO310.1; subst eo13; obtain ⟨Ao14, co14, eo14⟩ := Kd.N_slice HO313.1; subst eo14) | ((with_reducible refine gate_store (t := 25) (p := 1) rfl ?_); refine store_event (t := 25) (p := 1) (v := ?vo_w15) (w1 := (((w11.setCell ⟨gb314, 0, none⟩ (.string t307)).setCell ⟨gb314, 1, none⟩ (.slice Ao13 t308.length co13)).setCell ⟨gb314, 2, none⟩ (.slice Ao14 t311.length co14))) ?hg ?ho ?hn ?hr ?_; (case ho => rfl); (case hg => rfl); (case hn => rfl); (case hr => first | (go_simp; done) | (go_simp; rfl)); intro w15 hw; replace HO310 : Aside0 (Kd.R k52 52 w15 w.heap.size (fun _ => True) (.slice Ao13 t308.length co13) t308) := ⟨(by rw [hw]; exact (by (with_reducible repeat (first | apply Kd.R_alloc | apply Kd.R_drewN | apply Kd.R_drew)); exact Kd.R_mono (Kd.R_far (p := ⟨gb314, 2, none⟩) (Kd.R_far (p := ⟨gb314, 1, none⟩) (Kd.R_far (p := ⟨gb314, 0, none⟩) (Kd.R_types HO310.1 BK314.1 (by decide)) (fun _ hk => hk.2) (.string t307)) (fun _ hk => hk.2) (.slice Ao13 t308.length co13)) (fun _ hk => hk.2) (.slice Ao14 t311.length co14)) (fun _ hk => trivial)))⟩; replace HO313 : Aside0 (Kd.N k48 48 w15 w.heap.size (fun k_ => some k_ ≠ (.slice Ao13 t308.length co13 : Value).ownBlock ∧ k_ ≠ gb314) (.slice Ao14 t311.length co14) t311) := ⟨(by rw [hw]; exact (by (with_reducible repeat (first | apply Kd.N_alloc | apply Kd.N_drewN | apply Kd.N_drew)); exact Kd.N_mono (Kd.N_far (p := ⟨gb314, 2, none⟩) (Kd.N_far (p := ⟨gb314, 1, none⟩) (Kd.N_far (p := ⟨gb314, 0, none⟩) (Kd.N_mono HO313.1 (fun k_ hk => (⟨hk, hk.2⟩ : _ ∧ k_ ≠ gb314))) (fun _ hk => hk.2) (.string t307)) (fun _ hk => hk.2) (.slice Ao13 t308.length co13)) (fun _ hk => hk.2) (.slice Ao14 t311.length co14)) (fun _ hk => ⟨hk.1.1, hk.1.2⟩)))⟩; replace BK314 : Aside0 (w15.heap[gb314]? = some (.cells #[.string t307, .slice Ao13 t308.length co13, .slice Ao14 t311.length co14] 25 (0, 0))) := ⟨(by rw [hw]; exact (by (with_reducible repeat (first | refine blk_drewN ?_ _ | refine blk_drew ?_ | refine blk_alloc ?_ _)); exact bp3 (pbk BK314.1)))⟩; replace HB : Aside0 (Below w.heap.size w w15) := ⟨(by rw [hw]; exact pbg)⟩; clear hw; obtain ⟨z16_0, z16_1, z16_2, y16_0, y16_1, y16_2⟩ := cf3 BK314.1; have q17 : (1 : Int) ≤ ((t308.length : Int) : Int) := dq; obtain ⟨i017, hi017, _, hsz17, _⟩ := info_parts info52; have hroom17 : t308.length ≤ co13 := (Kd.R_reads' HO310.1).2.1; have hC17 : Kd.F k52 _ _ Ao13 t308.length t308 := (Kd.V_at (base := w.heap.size) (Kd.R_V (Kd.R_types (Kd.R_apart' (HO310.1) (Kd.N_typed HO313.1) (by decide)) BK314.1 (by decide)))).2.2; have hcut17 := cut_to (P := Try.prog) 22 52 .i64 Try.underlying22 hi017 Ao13 t308.length co13 1 (by omega) q17 hroom17; have hr17 := Kd.F_take (m := 1) hC17 (by omega); have hy17 : y315.length = (1 : Int).toNat := (by rw [Ny315.1, List.length_take]; omega); rw [← Ny315.1] at hr17; rw [← hy17] at hcut17; have HO319 := am (show Kd.V k52 52 _ w.heap.size _ (.slice Ao13 y315.length co13) y315 from Kd.V_mk (by omega) hr17); have HC319 := am (show y315.length ≤ co13 from by omega); clear hr17 hC17 hroom17 hi017 hsz17; have KY17 := am hy17; clear hy17; replace q17 := eq_true q17) | ((with_reducible refine gate_dst (N := 2) rfl ?_); (try (refine gate_guard (by rfl) ?_; dsimp only)); refine box_ev (N := 2) (cs := #[.string (⟨#[]⟩ : ByteArray), .slice none 0 0, .slice none 0 0]) (t := 25) ?_; intro gb320 hg w18 hbox hb; have BK320 := am hbox; have GW320 := gwb hg; have GE320 := GW320; have NB314_320 := nlt hg BK314; have NB320_314 := ngt hg BK314; replace HO310 := rbw HO310 hb; replace HO313 := am (Kd.N_below (Kd.N_elderB (pkn HO313.1) gb320 (Nat.le_of_eq hg.symm)) hb); replace HO319 := vbb HO319 hg hb; replace BK314 := bbh BK314 hb; replace HB := bst hb; clear hb hbox hg; have hnb19 := NB320_314.1; have hnc19 := NB314_320.1; obtain ⟨z20_0, z20_1, z20_2, y20_0, y20_1, y20_2⟩ := cf3 BK320.1; obtain ⟨z21_0, z21_1, z21_2, y21_0, y21_1, y21_2⟩ := cf3 BK314.1) | ((with_reducible refine gate_callee (f := 12) rfl ?_); refine gC 24 Try.func12 _ (workflow_Source.calls k t307 _ _ t308 _ _ t311 t321 t322 _ ?side1 ?side2 ?side3 ?side4 A3.1) ?_; (case side1 => refine (Kd.R_reads' (e := 52) (base := w.heap.size) (ok := fun k_ => True) (n := t308.length) (c := co13) ?_).2.2; exact (by (with_reducible repeat (first | apply Kd.R_alloc | apply Kd.R_drewN | apply Kd.R_drew)); exact (Kd.R_mono (Kd.R_far (p := ⟨gb320, 2, none⟩) (Kd.R_far (p := ⟨gb320, 1, none⟩) (Kd.R_far (p := ⟨gb320, 0, none⟩) (Kd.R_types HO310.1 BK320.1 (by decide)) (fun _ hk => hk.2) (.string (⟨#[110]⟩ : ByteArray))) (fun _ hk => hk.2) (.slice Ao13 y315.length co13)) (fun _ hk => hk.2) (.slice none 0 0)) (fun _ h_ => h_.1)))); (case side2 => exact (Kd.R_reads' HO310.1).2.1); (case side3 => refine (Kd.N_reads' (e := 48) (base := w.heap.size) (ok := fun k_ => ((some k_ ≠ (.slice Ao13 t308.length co13 : Value).ownBlock ∧ k_ ≠ gb314) ∧ k_ ≠ gb320)) (n := t311.length) (c := co14) ?_).2.2; exact (by (with_reducible repeat (first | apply Kd.N_alloc | apply Kd.N_drewN | apply Kd.N_drew)); exact (Kd.N_mono (Kd.N_far (p := ⟨gb320, 2, none⟩) (Kd.N_far (p := ⟨gb320, 1, none⟩) (Kd.N_far (p := ⟨gb320, 0, none⟩) (Kd.N_mono HO313.1 (fun k_ hk => (⟨hk, hk.2⟩ : _ ∧ k_ ≠ gb320))) (fun _ hk => hk.2) (.string (⟨#[110]⟩ : ByteArray))) (fun _ hk => hk.2) (.slice Ao13 y315.length co13)) (fun _ hk => hk.2) (.slice none 0 0)) (fun _ h_ => h_.1)))); (case side4 => exact (Kd.N_reads' HO313.1).2.1); rintro e w22 ⟨rfl, hb⟩; refine ⟨_, rfl, ?_⟩; replace HO310 := am (Kd.R_below (by (with_reducible repeat (first | apply Kd.R_alloc | apply Kd.R_drewN | apply Kd.R_drew)); exact (Kd.R_mono (Kd.R_far (p := ⟨gb320, 2, none⟩) (Kd.R_far (p := ⟨gb320, 1, none⟩) (Kd.R_far (p := ⟨gb320, 0, none⟩) (Kd.R_types HO310.1 BK320.1 (by decide)) (fun _ hk => hk.2) (.string (⟨#[110]⟩ : ByteArray))) (fun _ hk => hk.2) (.slice Ao13 y315.length co13)) (fun _ hk => hk.2) (.slice none 0 0)) (fun _ h_ => h_.1))) hb); replace HO313 := am (Kd.N_below (by (with_reducible repeat (first | apply Kd.N_alloc | apply Kd.N_drewN | apply Kd.N_drew)); exact (Kd.N_mono (Kd.N_far (p := ⟨gb320, 2, none⟩) (Kd.N_far (p := ⟨gb320, 1, none⟩) (Kd.N_far (p := ⟨gb320, 0, none⟩) (Kd.N_mono HO313.1 (fun k_ hk => (⟨hk, hk.2⟩ : _ ∧ k_ ≠ gb320))) (fun _ hk => hk.2) (.string (⟨#[110]⟩ : ByteArray))) (fun _ hk => hk.2) (.slice Ao13 y315.length co13)) (fun _ hk => hk.2) (.slice none 0 0)) (fun _ h_ => h_.1))) hb); replace HO319 := am (Kd.V_below (by (with_reducible repeat (first | apply Kd.V_alloc | apply Kd.V_drewN | apply Kd.V_drew)); exact (Kd.V_mono (Kd.V_far (p := ⟨gb320, 2, none⟩) (Kd.V_far (p := ⟨gb320, 1, none⟩) (Kd.V_far (p := ⟨gb320, 0, none⟩) (Kd.V_mono HO319.1 (fun k_ hk => (⟨hk, hk.2⟩ : _ ∧ k_ ≠ gb320))) (fun _ hk => hk.2) (.string (⟨#[110]⟩ : ByteArray))) (fun _ hk => hk.2) (.slice Ao13 y315.length co13)) (fun _ hk => hk.2) (.slice none 0 0)) (fun _ h_ => h_.1))) hb); replace BK314 := am (blk_below (g := gb314) (o := .cells #[.string t307, .slice Ao13 t308.length co13, .slice Ao14 t311.length co14] 25 (0, 0)) (by (with_reducible repeat (first | refine blk_drewN ?_ _ | refine blk_drew ?_ | refine blk_alloc ?_ _)); refine bf3 ?_ NB314_320.1; exact pbk BK314.1) hb); replace BK320 := am (blk_below (g := gb320) (o := .cells #[.string (⟨#[110]⟩ : ByteArray), .slice Ao13 y315.length co13, .slice none 0 0] 25 (0, 0)) (by (with_reducible repeat (first | refine blk_drewN ?_ _ | refine blk_drew ?_ | refine blk_alloc ?_ _)); exact bp3 (pbk BK320.1)) hb); replace HB := bst hb; (try clear hb); (try clear hk); obtain ⟨z23_0, z23_1, z23_2, y23_0, y23_1, y23_2⟩ := cf3 BK314.1) | ((with_reducible refine gate_callee (f := 14) rfl ?_); refine gC 29 Try.func14 _ (workflow_Sink.calls k t307 _ _ t308 _ _ t311 t323 t324 _ (csd ((Kd.R_reads' HO310.1).2.2)) ((Kd.R_reads' HO310.1).2.1) (csd ((Kd.N_reads' HO313.1).2.2)) ((Kd.N_reads' HO313.1).2.1) A4.1) ?_; rintro e w24 ⟨rfl, hb⟩; refine ⟨_, rfl, ?_⟩; replace HO310 := rbw HO310 hb; replace HO313 := nbw HO313 hb; replace HO319 := vbw HO319 hb; replace BK314 := bbh BK314 hb; replace BK320 := bbh BK320 hb; replace HB := bst hb; (try clear hb); obtain ⟨z25_0, z25_1, z25_2, y25_0, y25_1, y25_2⟩ := cf3 BK320.1) | ((with_reducible refine gate_callee (f := 18) rfl ?_); refine gC 34 Try.func18 _ (workflow_Problems.calls k (⟨#[110]⟩ : ByteArray) _ _ y315 _ _ ([] : List (S48)) t325 t328 _ (csd ((Kd.V_reads' HO319.1).2.2)) ((Kd.V_reads' HO319.1).2.1) (Kd.C_nil _ _) (Nat.le_refl _) A5.1) ?_; rintro e w26 ⟨v326, rfl, ho0, hb⟩; refine ⟨_, rfl, ?_⟩; have HO327 := am (Kd.R_lower ho0 (below_size pbg)); replace HO310 := rbw HO310 hb; replace HO313 := am (Kd.N_elder' (pkn HO313.1) (Kd.R_base ho0) hb); replace HO319 := am (Kd.V_elder' (pkv HO319.1) (Kd.R_base ho0) hb); replace BK314 := bbh BK314 hb; replace BK320 := bbh BK320 hb; replace HB := bst hb; (try clear hb); (try clear ho0); obtain ⟨z27_0, z27_1, z27_2, y27_0, y27_1, y27_2⟩ := cf3 BK314.1) | ((with_reducible refine gate_callee (f := 21) rfl ?_); refine gC 39 Try.func21 _ (workflow_Prepare.calls k t307 _ _ t308 _ _ t311 t329 t330 t333 t336 _ (csd ((Kd.R_reads' HO310.1).2.2)) ((Kd.R_reads' HO310.1).2.1) (csd ((Kd.N_reads' HO313.1).2.2)) ((Kd.N_reads' HO313.1).2.1) A6.1) ?_; rintro e w28 ⟨v331, v334, rfl, ho0, ho1, hb⟩; refine ⟨_, rfl, ?_⟩; have HO332 := am (Kd.R_lower (Kd.R_new' ho0 (Kd.R_lt (pkr HO310.1))) (below_size pbg)); have HO335 := am (Kd.N_lower (Kd.N_mono (ok' := fun k_ => some k_ ≠ (v331 : Value).ownBlock ∧ some k_ ≠ (.slice Ao13 t308.length co13 : Value).ownBlock ∧ some k_ ≠ (.slice Ao14 t311.length co14 : Value).ownBlock ∧ some k_ ≠ (v326 : Value).ownBlock ∧ k_ ≠ gb314 ∧ k_ ≠ gb320) (Kd.S_N (Kd.S_bound (Kd.S_apart' ho1 (Kd.R_typed ho0) (by decide)))) (fun k_ hk_ => ⟨hk_.1.2, (Kd.fresh' (Kd.R_lt (pkr HO310.1)) k_ hk_.2.1), (Kd.fresh' (Kd.N_lt (pkn HO313.1)) k_ hk_.2.1), (Kd.fresh' (Kd.R_lt (pkr HO327.1)) k_ hk_.2.1), (Kd.freshB (g := gb314) (o := .cells #[.string t307, .slice Ao13 t308.length co13, .slice Ao14 t311.length co14] 25 (0, 0)) (by exact pbk BK314.1) k_ hk_.2.1), (Kd.freshB (g := gb320) (o := .cells #[.string (⟨#[110]⟩ : ByteArray), .slice Ao13 y315.length co13, .slice none 0 0] 25 (0, 0)) (by exact pbk BK320.1) k_ hk_.2.1)⟩)) (below_size pbg)); replace HO310 := am (Kd.R_elder' (pkr HO310.1) (Kd.R_base ho0) hb); replace HO313 := am (Kd.N_mono (Kd.N_told (Kd.N_told (Kd.N_old (pkn HO313.1) hb) (Kd.R_base ho0)) (Kd.S_base ho1)) (fun _ h_ => h_.1)); replace HO319 := am (Kd.V_mono (Kd.V_told (Kd.V_told (Kd.V_old (pkv HO319.1) hb) (Kd.R_base ho0)) (Kd.S_base ho1)) (fun _ h_ => h_.1)); replace HO327 := rbw HO327 hb; replace BK314 := bbh BK314 hb; replace BK320 := bbh BK320 hb; replace HB := bst hb; (try clear hb); (try clear ho0); (try clear ho1)) | ((with_reducible refine gate_dst (N := 9) rfl ?_); (try (refine gate_guard (by rfl) ?_; dsimp only)); refine box_ev (N := 9) (cs := #[.string (⟨#[]⟩ : ByteArray), .slice none 0 0, .slice none 0 0]) (t := 25) ?_; intro gb337 hg w29 hbox hb; have BK337 := am hbox; have GW337 := gwb hg; have GE337 := GW337; have NB314_337 := nlt hg BK314; have NB337_314 := ngt hg BK314; have NB320_337 := nlt hg BK320; have NB337_320 := ngt hg BK320; replace HO310 := rbw HO310 hb; replace HO313 := am (Kd.N_below (Kd.N_elderB (pkn HO313.1) gb337 (Nat.le_of_eq hg.symm)) hb); replace HO319 := vbb HO319 hg hb; replace HO327 := rbw HO327 hb; replace HO332 := rbw HO332 hb; replace HO335 := am (Kd.N_below (Kd.N_elderB (pkn HO335.1) gb337 (Nat.le_of_eq hg.symm)) hb); replace BK314 := bbh BK314 hb; replace BK320 := bbh BK320 hb; replace HB := bst hb; clear hb hbox hg; have hnb30 := NB337_314.1; have hnc30 := NB314_337.1; have hnb31 := NB337_320.1; have hnc31 := NB320_337.1; obtain ⟨z32_0, z32_1, z32_2, y32_0, y32_1, y32_2⟩ := cf3 BK337.1; obtain ⟨Ao33, co33, eo33⟩ := Kd.R_slice HO332.1; subst eo33; obtain ⟨Ao34, co34, eo34⟩ := Kd.N_slice HO335.1; subst eo34; obtain ⟨z35_0, z35_1, z35_2, y35_0, y35_1, y35_2⟩ := cf3 BK314.1) | ((with_reducible refine gate_callee (f := 23) rfl ?_); refine gC 44 Try.func23 _ (workflow_Final.calls k t307 _ _ t308 _ _ t311 t338 t341 _ ?side1 ?side2 ?side3 ?side4 A7.1) ?_; (case side1 => refine (Kd.R_reads' (e := 52) (base := w.heap.size) (ok := fun k_ => (True ∧ some k_ ≠ (.slice Ao33 t330.length co33 : Value).ownBlock)) (n := t308.length) (c := co13) ?_).2.2; exact (by (with_reducible repeat (first | apply Kd.R_alloc | apply Kd.R_drewN | apply Kd.R_drew)); exact (Kd.R_mono (Kd.R_far (p := ⟨gb337, 2, none⟩) (Kd.R_far (p := ⟨gb337, 1, none⟩) (Kd.R_far (p := ⟨gb337, 0, none⟩) (Kd.R_types HO310.1 BK337.1 (by decide)) (fun _ hk => hk.2) (.string t329)) (fun _ hk => hk.2) (.slice Ao33 t330.length co33)) (fun _ hk => hk.2) (.slice Ao34 t333.length co34)) (fun _ h_ => h_.1)))); (case side2 => exact (Kd.R_reads' HO310.1).2.1); (case side3 => refine (Kd.N_reads' (e := 48) (base := w.heap.size) (ok := fun k_ => ((((((some k_ ≠ (.slice Ao13 t308.length co13 : Value).ownBlock ∧ k_ ≠ gb314) ∧ k_ ≠ gb320) ∧ some k_ ≠ (v326 : Value).ownBlock) ∧ some k_ ≠ (.slice Ao33 t330.length co33 : Value).ownBlock) ∧ some k_ ≠ (.slice Ao34 t333.length co34 : Value).ownBlock) ∧ k_ ≠ gb337)) (n := t311.length) (c := co14) ?_).2.2; exact (by (with_reducible repeat (first | apply Kd.N_alloc | apply Kd.N_drewN | apply Kd.N_drew)); exact (Kd.N_mono (Kd.N_far (p := ⟨gb337, 2, none⟩) (Kd.N_far (p := ⟨gb337, 1, none⟩) (Kd.N_far (p := ⟨gb337, 0, none⟩) (Kd.N_mono HO313.1 (fun k_ hk => (⟨hk, hk.2⟩ : _ ∧ k_ ≠ gb337))) (fun _ hk => hk.2) (.string t329)) (fun _ hk => hk.2) (.slice Ao33 t330.length co33)) (fun _ hk => hk.2) (.slice Ao34 t333.length co34)) (fun _ h_ => h_.1)))); (case side4 => exact (Kd.N_reads' HO313.1).2.1); rintro e w36 ⟨v339, rfl, ho0, hb⟩; refine ⟨_, rfl, ?_⟩; have HO340 := am (Kd.R_lower ho0 (below_size pbg)); replace HO310 := am (Kd.R_below (by (with_reducible repeat (first | apply Kd.R_alloc | apply Kd.R_drewN | apply Kd.R_drew)); exact (Kd.R_mono (Kd.R_far (p := ⟨gb337, 2, none⟩) (Kd.R_far (p := ⟨gb337, 1, none⟩) (Kd.R_far (p := ⟨gb337, 0, none⟩) (Kd.R_types HO310.1 BK337.1 (by decide)) (fun _ hk => hk.2) (.string t329)) (fun _ hk => hk.2) (.slice Ao33 t330.length co33)) (fun _ hk => hk.2) (.slice Ao34 t333.length co34)) (fun _ h_ => h_.1))) hb); replace HO313 := am (Kd.N_elder' (by (with_reducible repeat (first | apply Kd.N_alloc | apply Kd.N_drewN | apply Kd.N_drew)); exact (Kd.N_mono (Kd.N_far (p := ⟨gb337, 2, none⟩) (Kd.N_far (p := ⟨gb337, 1, none⟩) (Kd.N_far (p := ⟨gb337, 0, none⟩) (Kd.N_mono HO313.1 (fun k_ hk => (⟨hk, hk.2⟩ : _ ∧ k_ ≠ gb337))) (fun _ hk => hk.2) (.string t329)) (fun _ hk => hk.2) (.slice Ao33 t330.length co33)) (fun _ hk => hk.2) (.slice Ao34 t333.length co34)) (fun _ h_ => h_.1))) (Kd.R_base ho0) hb); replace HO319 := am (Kd.V_elder' (by (with_reducible repeat (first | apply Kd.V_alloc | apply Kd.V_drewN | apply Kd.V_drew)); exact (Kd.V_mono (Kd.V_far (p := ⟨gb337, 2, none⟩) (Kd.V_far (p := ⟨gb337, 1, none⟩) (Kd.V_far (p := ⟨gb337, 0, none⟩) (Kd.V_mono HO319.1 (fun k_ hk => (⟨hk, hk.2⟩ : _ ∧ k_ ≠ gb337))) (fun _ hk => hk.2) (.string t329)) (fun _ hk => hk.2) (.slice Ao33 t330.length co33)) (fun _ hk => hk.2) (.slice Ao34 t333.length co34)) (fun _ h_ => h_.1))) (Kd.R_base ho0) hb); replace HO327 := am (Kd.R_below (by (with_reducible repeat (first | apply Kd.R_alloc | apply Kd.R_drewN | apply Kd.R_drew)); exact (Kd.R_mono (Kd.R_far (p := ⟨gb337, 2, none⟩) (Kd.R_far (p := ⟨gb337, 1, none⟩) (Kd.R_far (p := ⟨gb337, 0, none⟩) (Kd.R_types HO327.1 BK337.1 (by decide)) (fun _ hk => hk.2) (.string t329)) (fun _ hk => hk.2) (.slice Ao33 t330.length co33)) (fun _ hk => hk.2) (.slice Ao34 t333.length co34)) (fun _ h_ => h_.1))) hb); replace HO332 := am (Kd.R_below (by (with_reducible repeat (first | apply Kd.R_alloc | apply Kd.R_drewN | apply Kd.R_drew)); exact (Kd.R_mono (Kd.R_far (p := ⟨gb337, 2, none⟩) (Kd.R_far (p := ⟨gb337, 1, none⟩) (Kd.R_far (p := ⟨gb337, 0, none⟩) (Kd.R_types HO332.1 BK337.1 (by decide)) (fun _ hk => hk.2) (.string t329)) (fun _ hk => hk.2) (.slice Ao33 t330.length co33)) (fun _ hk => hk.2) (.slice Ao34 t333.length co34)) (fun _ h_ => h_.1))) hb); replace HO335 := am (Kd.N_elder' (by (with_reducible repeat (first | apply Kd.N_alloc | apply Kd.N_drewN | apply Kd.N_drew)); exact (Kd.N_mono (Kd.N_far (p := ⟨gb337, 2, none⟩) (Kd.N_far (p := ⟨gb337, 1, none⟩) (Kd.N_far (p := ⟨gb337, 0, none⟩) (Kd.N_mono HO335.1 (fun k_ hk => (⟨hk, hk.2⟩ : _ ∧ k_ ≠ gb337))) (fun _ hk => hk.2) (.string t329)) (fun _ hk => hk.2) (.slice Ao33 t330.length co33)) (fun _ hk => hk.2) (.slice Ao34 t333.length co34)) (fun _ h_ => h_.1))) (Kd.R_base ho0) hb); replace BK314 := am (blk_below (g := gb314) (o := .cells #[.string t307, .slice Ao13 t308.length co13, .slice Ao14 t311.length co14] 25 (0, 0)) (by (with_reducible repeat (first | refine blk_drewN ?_ _ | refine blk_drew ?_ | refine blk_alloc ?_ _)); refine bf3 ?_ NB314_337.1; exact pbk BK314.1) hb); replace BK320 := am (blk_below (g := gb320) (o := .cells #[.string (⟨#[110]⟩ : ByteArray), .slice Ao13 y315.length co13, .slice none 0 0] 25 (0, 0)) (by (with_reducible repeat (first | refine blk_drewN ?_ _ | refine blk_drew ?_ | refine blk_alloc ?_ _)); refine bf3 ?_ NB320_337.1; exact pbk BK320.1) hb); replace BK337 := am (blk_below (g := gb337) (o := .cells #[.string t329, .slice Ao33 t330.length co33, .slice Ao34 t333.length co34] 25 (0, 0)) (by (with_reducible repeat (first | refine blk_drewN ?_ _ | refine blk_drew ?_ | refine blk_alloc ?_ _)); exact bp3 (pbk BK337.1)) hb); replace HB := bst hb; (try clear hb); (try clear hk); (try clear ho0); obtain ⟨z37_0, z37_1, z37_2, y37_0, y37_1, y37_2⟩ := cf3 BK314.1) | ((with_reducible refine gate_callee (f := 25) rfl ?_); refine gC 49 Try.func25 _ (workflow_Close.calls k t307 _ _ t308 _ _ t311 t342 t343 t346 t349 _ (csd ((Kd.R_reads' HO310.1).2.2)) ((Kd.R_reads' HO310.1).2.1) (csd ((Kd.N_reads' HO313.1).2.2)) ((Kd.N_reads' HO313.1).2.1) A8.1) ?_; rintro e w38 ⟨v344, v347, rfl, ho0, ho1, hb⟩; refine ⟨_, rfl, ?_⟩; have HO345 := am (Kd.R_lower (Kd.R_new' (Kd.R_new' ho0 (Kd.R_lt (pkr HO310.1))) (Kd.R_lt (pkr HO332.1))) (below_size pbg)); have HO348 := am (Kd.N_lower (Kd.N_mono (ok' := fun k_ => some k_ ≠ (v344 : Value).ownBlock ∧ some k_ ≠ (.slice Ao13 t308.length co13 : Value).ownBlock ∧ some k_ ≠ (.slice Ao14 t311.length co14 : Value).ownBlock ∧ some k_ ≠ (v326 : Value).ownBlock ∧ some k_ ≠ (.slice Ao33 t330.length co33 : Value).ownBlock ∧ some k_ ≠ (.slice Ao34 t333.length co34 : Value).ownBlock ∧ some k_ ≠ (v339 : Value).ownBlock ∧ k_ ≠ gb314 ∧ k_ ≠ gb320 ∧ k_ ≠ gb337) (Kd.S_N (Kd.S_bound (Kd.S_apart' ho1 (Kd.R_typed ho0) (by decide)))) (fun k_ hk_ => ⟨hk_.1.2, (Kd.fresh' (Kd.R_lt (pkr HO310.1)) k_ hk_.2.1), (Kd.fresh' (Kd.N_lt (pkn HO313.1)) k_ hk_.2.1), (Kd.fresh' (Kd.R_lt (pkr HO327.1)) k_ hk_.2.1), (Kd.fresh' (Kd.R_lt (pkr HO332.1)) k_ hk_.2.1), (Kd.fresh' (Kd.N_lt (pkn HO335.1)) k_ hk_.2.1), (Kd.fresh' (Kd.R_lt (pkr HO340.1)) k_ hk_.2.1), (Kd.freshB (g := gb314) (o := .cells #[.string t307, .slice Ao13 t308.length co13, .slice Ao14 t311.length co14] 25 (0, 0)) (by exact pbk BK314.1) k_ hk_.2.1), (Kd.freshB (g := gb320) (o := .cells #[.string (⟨#[110]⟩ : ByteArray), .slice Ao13 y315.length co13, .slice none 0 0] 25 (0, 0)) (by exact pbk BK320.1) k_ hk_.2.1), (Kd.freshB (g := gb337) (o := .cells #[.string t329, .slice Ao33 t330.length co33, .slice Ao34 t333.length co34] 25 (0, 0)) (by exact pbk BK337.1) k_ hk_.2.1)⟩)) (below_size pbg)); replace HO310 := am (Kd.R_elder' (pkr HO310.1) (Kd.R_base ho0) hb); replace HO313 := am (Kd.N_mono (Kd.N_told (Kd.N_told (Kd.N_old (pkn HO313.1) hb) (Kd.R_base ho0)) (Kd.S_base ho1)) (fun _ h_ => h_.1)); replace HO319 := am (Kd.V_mono (Kd.V_told (Kd.V_told (Kd.V_old (pkv HO319.1) hb) (Kd.R_base ho0)) (Kd.S_base ho1)) (fun _ h_ => h_.1)); replace HO327 := rbw HO327 hb; replace HO332 := am (Kd.R_elder' (pkr HO332.1) (Kd.R_base ho0) hb); replace HO335 := am (Kd.N_mono (Kd.N_told (Kd.N_told (Kd.N_old (pkn HO335.1) hb) (Kd.R_base ho0)) (Kd.S_base ho1)) (fun _ h_ => h_.1)); replace HO340 := rbw HO340 hb; replace BK314 := bbh BK314 hb; replace BK320 := bbh BK320 hb; replace BK337 := bbh BK337 hb; replace HB := bst hb; (try clear hb); (try clear ho0); (try clear ho1)) | ((with_reducible refine gate_dst (N := 13) rfl ?_); (try (refine gate_guard (by rfl) ?_; dsimp only)); refine box_ev (N := 13) (cs := #[.string (⟨#[]⟩ : ByteArray), .slice none 0 0, .slice none 0 0]) (t := 25) ?_; intro gb350 hg w39 hbox hb; have BK350 := am hbox; have GW350 := gwb hg; have GE350 := GW350; have NB314_350 := nlt hg BK314; have NB350_314 := ngt hg BK314; have NB320_350 := nlt hg BK320; have NB350_320 := ngt hg BK320; have NB337_350 := nlt hg BK337; have NB350_337 := ngt hg BK337; replace HO310 := rbw HO310 hb; replace HO313 := am (Kd.N_below (Kd.N_elderB (pkn HO313.1) gb350 (Nat.le_of_eq hg.symm)) hb); replace HO319 := vbb HO319 hg hb; replace HO327 := rbw HO327 hb; replace HO332 := rbw HO332 hb; replace HO335 := am (Kd.N_below (Kd.N_elderB (pkn HO335.1) gb350 (Nat.le_of_eq hg.symm)) hb); replace HO340 := rbw HO340 hb; replace HO345 := rbw HO345 hb; replace HO348 := am (Kd.N_below (Kd.N_elderB (pkn HO348.1) gb350 (Nat.le_of_eq hg.symm)) hb); replace BK314 := bbh BK314 hb; replace BK320 := bbh BK320 hb; replace BK337 := bbh BK337 hb; replace HB := bst hb; clear hb hbox hg; have hnb40 := NB350_314.1; have hnc40 := NB314_350.1; have hnb41 := NB350_320.1; have hnc41 := NB320_350.1; have hnb42 := NB350_337.1; have hnc42 := NB337_350.1; obtain ⟨z43_0, z43_1, z43_2, y43_0, y43_1, y43_2⟩ := cf3 BK350.1; obtain ⟨Ao44, co44, eo44⟩ := Kd.R_slice HO345.1; subst eo44; obtain ⟨Ao45, co45, eo45⟩ := Kd.N_slice HO348.1; subst eo45))
 (try simp only [Act.put, List.setIfInBounds_toArray, List.set_cons_zero, List.set_cons_succ])
 go_cut [90] (fun v90 wc => ∃ (kq : Nat) (x90_8 : Bool), v90 = .bool x90_8 ∧ Aside0 (petrinetlaw43_lives.j0 kq t336 t338 t341 t349 x90_8 (⟨#[110]⟩ : ByteArray) y315 t329 t330 t333 t342 t343 t346 = some r) ∧ Aside0 (kq ≤ k) ∧ Aside0 (Kd.R (Kd.int .i64) 3 wc w.heap.size (fun _ => True) v339 t338) ∧ Aside0 (Kd.R k52 52 wc w.heap.size (fun k_ => some k_ ≠ ((.slice Ao33 t330.length co33) : Value).ownBlock ∧ some k_ ≠ ((.slice Ao44 t343.length co44) : Value).ownBlock) (.slice Ao13 t308.length co13) t308) ∧ Aside0 (Kd.N k48 48 wc w.heap.size (fun k_ => some k_ ≠ (v339 : Value).ownBlock ∧ some k_ ≠ ((.slice Ao13 t308.length co13) : Value).ownBlock ∧ some k_ ≠ ((.slice Ao33 t330.length co33) : Value).ownBlock ∧ some k_ ≠ ((.slice Ao34 t333.length co34) : Value).ownBlock ∧ some k_ ≠ ((.slice Ao44 t343.length co44) : Value).ownBlock ∧ some k_ ≠ ((.slice Ao45 t346.length co45) : Value).ownBlock ∧ k_ ≠ gb314 ∧ k_ ≠ gb320 ∧ k_ ≠ gb337 ∧ k_ ≠ gb350) (.slice Ao14 t311.length co14) t311) ∧ Aside0 (Kd.V k52 52 wc w.heap.size (fun k_ => some k_ ≠ (v339 : Value).ownBlock ∧ some k_ ≠ ((.slice Ao14 t311.length co14) : Value).ownBlock ∧ some k_ ≠ ((.slice Ao33 t330.length co33) : Value).ownBlock ∧ some k_ ≠ ((.slice Ao34 t333.length co34) : Value).ownBlock ∧ some k_ ≠ ((.slice Ao44 t343.length co44) : Value).ownBlock ∧ some k_ ≠ ((.slice Ao45 t346.length co45) : Value).ownBlock ∧ k_ ≠ gb314 ∧ k_ ≠ gb320 ∧ k_ ≠ gb337 ∧ k_ ≠ gb350) (.slice Ao13 y315.length co13) y315) ∧ Aside0 (Kd.R k52 52 wc w.heap.size (fun k_ => some k_ ≠ ((.slice Ao13 t308.length co13) : Value).ownBlock ∧ some k_ ≠ ((.slice Ao44 t343.length co44) : Value).ownBlock) (.slice Ao33 t330.length co33) t330) ∧ Aside0 (Kd.N k48 48 wc w.heap.size (fun k_ => some k_ ≠ (v339 : Value).ownBlock ∧ some k_ ≠ ((.slice Ao13 t308.length co13) : Value).ownBlock ∧ some k_ ≠ ((.slice Ao14 t311.length co14) : Value).ownBlock ∧ some k_ ≠ ((.slice Ao33 t330.length co33) : Value).ownBlock ∧ some k_ ≠ ((.slice Ao44 t343.length co44) : Value).ownBlock ∧ some k_ ≠ ((.slice Ao45 t346.length co45) : Value).ownBlock ∧ k_ ≠ gb314 ∧ k_ ≠ gb320 ∧ k_ ≠ gb337 ∧ k_ ≠ gb350) (.slice Ao34 t333.length co34) t333) ∧ Aside0 (Kd.R k52 52 wc w.heap.size (fun k_ => some k_ ≠ ((.slice Ao13 t308.length co13) : Value).ownBlock ∧ some k_ ≠ ((.slice Ao33 t330.length co33) : Value).ownBlock) (.slice Ao44 t343.length co44) t343) ∧ Aside0 (Kd.N k48 48 wc w.heap.size (fun k_ => some k_ ≠ (v339 : Value).ownBlock ∧ some k_ ≠ ((.slice Ao13 t308.length co13) : Value).ownBlock ∧ some k_ ≠ ((.slice Ao14 t311.length co14) : Value).ownBlock ∧ some k_ ≠ ((.slice Ao33 t330.length co33) : Value).ownBlock ∧ some k_ ≠ ((.slice Ao34 t333.length co34) : Value).ownBlock ∧ some k_ ≠ ((.slice Ao44 t343.length co44) : Value).ownBlock ∧ k_ ≠ gb314 ∧ k_ ≠ gb320 ∧ k_ ≠ gb337 ∧ k_ ≠ gb350) (.slice Ao45 t346.length co45) t346) ∧ Aside0 (wc.heap[gb314]? = some (.cells #[.string t307, (.slice Ao13 t308.length co13), (.slice Ao14 t311.length co14)] 25 (0, 0))) ∧ Aside0 (wc.heap[gb320]? = some (.cells #[.string (⟨#[110]⟩ : ByteArray), (.slice Ao13 y315.length co13), (.slice none 0 0)] 25 (0, 0))) ∧ Aside0 (wc.heap[gb337]? = some (.cells #[.string t329, (.slice Ao33 t330.length co33), (.slice Ao34 t333.length co34)] 25 (0, 0))) ∧ Aside0 (wc.heap[gb350]? = some (.cells #[.string t342, (.slice Ao44 t343.length co44), (.slice Ao45 t346.length co45)] 25 (0, 0))) ∧ Aside0 (Below w.heap.size w wc))
 case first =>
  have H := HC9.1
  clear HC9
  replace H := ifp H
  obtain ⟨c46, H⟩ := H
  have c46b0 : (t321 == 0) = true := beq_iff_eq.mpr c46
  have c46b1 : (t321 != 0) = false := bne_eq_false_iff_eq.mpr c46
  clear c46
  (first | rw [c46b0] | (simp only [i64_w, i32_w]; rw [c46b0]) | skip)
  by_cases c47 : t322 = true
  rotate_left
  ·replace c47 := Bool.eq_false_iff.mpr c47
   subst c47
   rw [if_neg Bool.false_ne_true] at H
   exact absurd H (by simp)
  subst c47
  rw [if_pos rfl] at H
  replace H := ifp H
  obtain ⟨c48, H⟩ := H
  have c48b0 : (t323 == 1) = true := beq_iff_eq.mpr c48
  have c48b1 : (t323 != 1) = false := bne_eq_false_iff_eq.mpr c48
  clear c48
  by_cases c49 : t324 = true
  rotate_left
  ·replace c49 := Bool.eq_false_iff.mpr c49
   subst c49
   rw [if_neg Bool.false_ne_true] at H
   exact absurd H (by simp)
  subst c49
  rw [if_pos rfl] at H
  replace H := bnd H
  obtain ⟨t351, A50, H⟩ := H
  (try dsimp only at H)
  by_cases c51 : t351 = true
  rotate_left
  ·replace c51 := Bool.eq_false_iff.mpr c51
   subst c51
   rw [if_neg Bool.false_ne_true] at H
   exact absurd H (by simp)
  subst c51
  rw [if_pos rfl] at H
  replace H := bnd H
  obtain ⟨t352, A52, H⟩ := H
  (try dsimp only at H)
  by_cases c53 : t352 = true
  ·subst c53
   rw [if_pos rfl] at H
   exact absurd H (by simp)
  replace c53 := Bool.eq_false_iff.mpr c53
  subst c53
  rw [if_neg Bool.false_ne_true] at H
  replace H := ifp H
  obtain ⟨c54, H⟩ := H
  have c54b0 : ((t325.length : Int) == 1) = true := beq_iff_eq.mpr c54
  have c54b1 : ((t325.length : Int) != 1) = false := bne_eq_false_iff_eq.mpr c54
  clear c54
  replace H := ifp H
  obtain ⟨c55, H⟩ := H
  have c55b0 := decide_eq_true c55
  have c55b1 : decide (0 < t325.length) = true := decide_eq_true (by omega)
  clear c55
  by_cases c56 : (!(((rd_T50 t325 0).f0) == 3) || (!(((rd_T50 t325 0).f1) == 0))) = true
  ·rw [if_pos c56] at H
   exact absurd H (by simp)
  rw [if_neg c56] at H
  have c56b0 : (!(((rd_T50 t325 0).f0) == 3) || (!(((rd_T50 t325 0).f1) == 0))) = false := by simpa using c56
  clear c56
  have H' := am H
  clear H
  have hnb57 := NB314_320.1
  have hnc57 := NB320_314.1
  have hnb58 := NB314_337.1
  have hnc58 := NB337_314.1
  have hnb59 := NB314_350.1
  have hnc59 := NB350_314.1
  obtain ⟨z60_0, z60_1, z60_2, y60_0, y60_1, y60_2⟩ := cf3 BK314.1
  have tk0_ := am True.intro
  have tk1_ := am True.intro
  go_wp2_with (first | (go_at_call 16; have _t := tk0_; (with_reducible refine (workflow_Is.calls k t307 _ _ t308 _ _ t311 true _ ?side1 ?side2 ?side3 ?side4 A50.1).mono ?_); (case side1 => refine (Kd.R_reads' (e := 52) (base := w.heap.size) (ok := fun k_ => ((True ∧ some k_ ≠ (.slice Ao33 t330.length co33 : Value).ownBlock) ∧ some k_ ≠ (.slice Ao44 t343.length co44 : Value).ownBlock)) (n := t308.length) (c := co13) ?_).2.2; exact (by (with_reducible repeat (first | apply Kd.R_alloc | apply Kd.R_drewN | apply Kd.R_drew)); exact (Kd.R_mono (Kd.R_far (p := ⟨gb350, 2, none⟩) (Kd.R_far (p := ⟨gb350, 1, none⟩) (Kd.R_far (p := ⟨gb350, 0, none⟩) (Kd.R_types HO310.1 BK350.1 (by decide)) (fun _ hk => hk.2) (.string t342)) (fun _ hk => hk.2) (.slice Ao44 t343.length co44)) (fun _ hk => hk.2) (.slice Ao45 t346.length co45)) (fun _ h_ => h_.1)))); (case side2 => exact (Kd.R_reads' HO310.1).2.1); (case side3 => refine (Kd.N_reads' (e := 48) (base := w.heap.size) (ok := fun k_ => ((((((((((some k_ ≠ (.slice Ao13 t308.length co13 : Value).ownBlock ∧ k_ ≠ gb314) ∧ k_ ≠ gb320) ∧ some k_ ≠ (v326 : Value).ownBlock) ∧ some k_ ≠ (.slice Ao33 t330.length co33 : Value).ownBlock) ∧ some k_ ≠ (.slice Ao34 t333.length co34 : Value).ownBlock) ∧ k_ ≠ gb337) ∧ some k_ ≠ (v339 : Value).ownBlock) ∧ some k_ ≠ (.slice Ao44 t343.length co44 : Value).ownBlock) ∧ some k_ ≠ (.slice Ao45 t346.length co45 : Value).ownBlock) ∧ k_ ≠ gb350)) (n := t311.length) (c := co14) ?_).2.2; exact (by (with_reducible repeat (first | apply Kd.N_alloc | apply Kd.N_drewN | apply Kd.N_drew)); exact (Kd.N_mono (Kd.N_far (p := ⟨gb350, 2, none⟩) (Kd.N_far (p := ⟨gb350, 1, none⟩) (Kd.N_far (p := ⟨gb350, 0, none⟩) (Kd.N_mono HO313.1 (fun k_ hk => (⟨hk, hk.2⟩ : _ ∧ k_ ≠ gb350))) (fun _ hk => hk.2) (.string t342)) (fun _ hk => hk.2) (.slice Ao44 t343.length co44)) (fun _ hk => hk.2) (.slice Ao45 t346.length co45)) (fun _ h_ => h_.1)))); (case side4 => exact (Kd.N_reads' HO313.1).2.1); rintro e w61 ⟨rfl, hb⟩; replace HO310 := am (Kd.R_below (by (with_reducible repeat (first | apply Kd.R_alloc | apply Kd.R_drewN | apply Kd.R_drew)); exact (Kd.R_mono (Kd.R_far (p := ⟨gb350, 2, none⟩) (Kd.R_far (p := ⟨gb350, 1, none⟩) (Kd.R_far (p := ⟨gb350, 0, none⟩) (Kd.R_types HO310.1 BK350.1 (by decide)) (fun _ hk => hk.2) (.string t342)) (fun _ hk => hk.2) (.slice Ao44 t343.length co44)) (fun _ hk => hk.2) (.slice Ao45 t346.length co45)) (fun _ h_ => h_.1))) hb); replace HO313 := am (Kd.N_below (by (with_reducible repeat (first | apply Kd.N_alloc | apply Kd.N_drewN | apply Kd.N_drew)); exact (Kd.N_mono (Kd.N_far (p := ⟨gb350, 2, none⟩) (Kd.N_far (p := ⟨gb350, 1, none⟩) (Kd.N_far (p := ⟨gb350, 0, none⟩) (Kd.N_mono HO313.1 (fun k_ hk => (⟨hk, hk.2⟩ : _ ∧ k_ ≠ gb350))) (fun _ hk => hk.2) (.string t342)) (fun _ hk => hk.2) (.slice Ao44 t343.length co44)) (fun _ hk => hk.2) (.slice Ao45 t346.length co45)) (fun _ h_ => h_.1))) hb); replace HO319 := am (Kd.V_below (by (with_reducible repeat (first | apply Kd.V_alloc | apply Kd.V_drewN | apply Kd.V_drew)); exact (Kd.V_mono (Kd.V_far (p := ⟨gb350, 2, none⟩) (Kd.V_far (p := ⟨gb350, 1, none⟩) (Kd.V_far (p := ⟨gb350, 0, none⟩) (Kd.V_mono HO319.1 (fun k_ hk => (⟨hk, hk.2⟩ : _ ∧ k_ ≠ gb350))) (fun _ hk => hk.2) (.string t342)) (fun _ hk => hk.2) (.slice Ao44 t343.length co44)) (fun _ hk => hk.2) (.slice Ao45 t346.length co45)) (fun _ h_ => h_.1))) hb); replace HO327 := am (Kd.R_below (by (with_reducible repeat (first | apply Kd.R_alloc | apply Kd.R_drewN | apply Kd.R_drew)); exact (Kd.R_mono (Kd.R_far (p := ⟨gb350, 2, none⟩) (Kd.R_far (p := ⟨gb350, 1, none⟩) (Kd.R_far (p := ⟨gb350, 0, none⟩) (Kd.R_types HO327.1 BK350.1 (by decide)) (fun _ hk => hk.2) (.string t342)) (fun _ hk => hk.2) (.slice Ao44 t343.length co44)) (fun _ hk => hk.2) (.slice Ao45 t346.length co45)) (fun _ h_ => h_.1))) hb); replace HO332 := am (Kd.R_below (by (with_reducible repeat (first | apply Kd.R_alloc | apply Kd.R_drewN | apply Kd.R_drew)); exact (Kd.R_mono (Kd.R_far (p := ⟨gb350, 2, none⟩) (Kd.R_far (p := ⟨gb350, 1, none⟩) (Kd.R_far (p := ⟨gb350, 0, none⟩) (Kd.R_types HO332.1 BK350.1 (by decide)) (fun _ hk => hk.2) (.string t342)) (fun _ hk => hk.2) (.slice Ao44 t343.length co44)) (fun _ hk => hk.2) (.slice Ao45 t346.length co45)) (fun _ h_ => h_.1))) hb); replace HO335 := am (Kd.N_below (by (with_reducible repeat (first | apply Kd.N_alloc | apply Kd.N_drewN | apply Kd.N_drew)); exact (Kd.N_mono (Kd.N_far (p := ⟨gb350, 2, none⟩) (Kd.N_far (p := ⟨gb350, 1, none⟩) (Kd.N_far (p := ⟨gb350, 0, none⟩) (Kd.N_mono HO335.1 (fun k_ hk => (⟨hk, hk.2⟩ : _ ∧ k_ ≠ gb350))) (fun _ hk => hk.2) (.string t342)) (fun _ hk => hk.2) (.slice Ao44 t343.length co44)) (fun _ hk => hk.2) (.slice Ao45 t346.length co45)) (fun _ h_ => h_.1))) hb); replace HO340 := am (Kd.R_below (by (with_reducible repeat (first | apply Kd.R_alloc | apply Kd.R_drewN | apply Kd.R_drew)); exact (Kd.R_mono (Kd.R_far (p := ⟨gb350, 2, none⟩) (Kd.R_far (p := ⟨gb350, 1, none⟩) (Kd.R_far (p := ⟨gb350, 0, none⟩) (Kd.R_types HO340.1 BK350.1 (by decide)) (fun _ hk => hk.2) (.string t342)) (fun _ hk => hk.2) (.slice Ao44 t343.length co44)) (fun _ hk => hk.2) (.slice Ao45 t346.length co45)) (fun _ h_ => h_.1))) hb); replace HO345 := am (Kd.R_below (by (with_reducible repeat (first | apply Kd.R_alloc | apply Kd.R_drewN | apply Kd.R_drew)); exact (Kd.R_mono (Kd.R_far (p := ⟨gb350, 2, none⟩) (Kd.R_far (p := ⟨gb350, 1, none⟩) (Kd.R_far (p := ⟨gb350, 0, none⟩) (Kd.R_types HO345.1 BK350.1 (by decide)) (fun _ hk => hk.2) (.string t342)) (fun _ hk => hk.2) (.slice Ao44 t343.length co44)) (fun _ hk => hk.2) (.slice Ao45 t346.length co45)) (fun _ h_ => h_.1))) hb); replace HO348 := am (Kd.N_below (by (with_reducible repeat (first | apply Kd.N_alloc | apply Kd.N_drewN | apply Kd.N_drew)); exact (Kd.N_mono (Kd.N_far (p := ⟨gb350, 2, none⟩) (Kd.N_far (p := ⟨gb350, 1, none⟩) (Kd.N_far (p := ⟨gb350, 0, none⟩) (Kd.N_mono HO348.1 (fun k_ hk => (⟨hk, hk.2⟩ : _ ∧ k_ ≠ gb350))) (fun _ hk => hk.2) (.string t342)) (fun _ hk => hk.2) (.slice Ao44 t343.length co44)) (fun _ hk => hk.2) (.slice Ao45 t346.length co45)) (fun _ h_ => h_.1))) hb); replace BK314 := am (blk_below (g := gb314) (o := .cells #[.string t307, .slice Ao13 t308.length co13, .slice Ao14 t311.length co14] 25 (0, 0)) (by (with_reducible repeat (first | refine blk_drewN ?_ _ | refine blk_drew ?_ | refine blk_alloc ?_ _)); refine bf3 ?_ NB314_350.1; exact pbk BK314.1) hb); replace BK320 := am (blk_below (g := gb320) (o := .cells #[.string (⟨#[110]⟩ : ByteArray), .slice Ao13 y315.length co13, .slice none 0 0] 25 (0, 0)) (by (with_reducible repeat (first | refine blk_drewN ?_ _ | refine blk_drew ?_ | refine blk_alloc ?_ _)); refine bf3 ?_ NB320_350.1; exact pbk BK320.1) hb); replace BK337 := am (blk_below (g := gb337) (o := .cells #[.string t329, .slice Ao33 t330.length co33, .slice Ao34 t333.length co34] 25 (0, 0)) (by (with_reducible repeat (first | refine blk_drewN ?_ _ | refine blk_drew ?_ | refine blk_alloc ?_ _)); refine bf3 ?_ NB337_350.1; exact pbk BK337.1) hb); replace BK350 := am (blk_below (g := gb350) (o := .cells #[.string t342, .slice Ao44 t343.length co44, .slice Ao45 t346.length co45] 25 (0, 0)) (by (with_reducible repeat (first | refine blk_drewN ?_ _ | refine blk_drew ?_ | refine blk_alloc ?_ _)); exact bp3 (pbk BK350.1)) hb); replace HB := bst hb; (try clear hb); (try clear hk); have hnb62 := NB320_337.1; have hnc62 := NB337_320.1; have hnb63 := NB320_350.1; have hnc63 := NB350_320.1; obtain ⟨z64_0, z64_1, z64_2, y64_0, y64_1, y64_2⟩ := cf3 BK320.1; clear tk0_ _t) | (go_at_call 16; have _t := tk1_; (refine (workflow_Is.calls k (⟨#[110]⟩ : ByteArray) _ _ y315 _ _ ([] : List (S48)) false _ ?side1 ?side2 ?side3 ?side4 A52.1).mono ?_); (case side1 => exact csd ((Kd.V_reads' HO319.1).2.2)); (case side2 => exact (Kd.V_reads' HO319.1).2.1); (case side3 => exact Kd.C_nil _ _); (case side4 => exact Nat.le_refl _); rintro e w65 ⟨rfl, hb⟩; replace HO310 := rbw HO310 hb; replace HO313 := nbw HO313 hb; replace HO319 := vbw HO319 hb; replace HO327 := rbw HO327 hb; replace HO332 := rbw HO332 hb; replace HO335 := nbw HO335 hb; replace HO340 := rbw HO340 hb; replace HO345 := rbw HO345 hb; replace HO348 := nbw HO348 hb; replace BK314 := bbh BK314 hb; replace BK320 := bbh BK320 hb; replace BK337 := bbh BK337 hb; replace BK350 := bbh BK350 hb; replace HB := bst hb; (try clear hb); obtain ⟨Ao66, co66, eo66⟩ := Kd.R_slice HO327.1; subst eo66; have p353 : 0 ≤ (0 : Int) := (by omega); have q353 : 0 < (t325.length : Int) := dq; obtain ⟨ad353, e353, hx353_0, hx353_1⟩ := at_T50 (Kd.R_reads' HO327.1).2.2 0 p353 q353; cases e353; have qi353 : (0 < t325.length) = True := eq_true (by omega); (try rw [show ((0 : Int)).toNat = 0 from rfl] at hx353_0); (try rw [show 0 * 2 = 0 from rfl] at hx353_0); (try rw [Addr.add_zero'] at hx353_0); (try rw [show ((0 : Int)).toNat = 0 from rfl] at hx353_1); (try rw [show 0 * 2 = 0 from rfl] at hx353_1); (try rw [Addr.add_zero'] at hx353_1); replace p353 := eq_true p353; replace q353 := eq_true q353; clear tk1_ _t))
  go_meet
  case rel => exact ⟨_, ((t328 != 0)), prs, H', ⟨by first | omega | exact Nat.le_refl _⟩, ⟨pkr HO340.1⟩, ⟨by (with_reducible repeat (first | apply Kd.R_alloc | apply Kd.R_drewN | apply Kd.R_drew)); exact Kd.R_mono HO310.1 (fun _ hk => ⟨hk.1.2, hk.2⟩)⟩, ⟨by (with_reducible repeat (first | apply Kd.N_alloc | apply Kd.N_drewN | apply Kd.N_drew)); exact Kd.N_mono HO313.1 (fun _ hk => ⟨hk.1.1.1.2, ⟨hk.1.1.1.1.1.1.1.1.1.1, ⟨hk.1.1.1.1.1.1.2, ⟨hk.1.1.1.1.1.2, ⟨hk.1.1.2, ⟨hk.1.2, ⟨hk.1.1.1.1.1.1.1.1.1.2, ⟨hk.1.1.1.1.1.1.1.1.2, ⟨hk.1.1.1.1.2, hk.2⟩⟩⟩⟩⟩⟩⟩⟩⟩)⟩, ⟨by (with_reducible repeat (first | apply Kd.V_alloc | apply Kd.V_drewN | apply Kd.V_drew)); exact Kd.V_mono HO319.1 (fun _ hk => ⟨hk.1.1.1.2, ⟨hk.1.1.1.1.1.1.1.1.1.1.2, ⟨hk.1.1.1.1.1.1.2, ⟨hk.1.1.1.1.1.2, ⟨hk.1.1.2, ⟨hk.1.2, ⟨hk.1.1.1.1.1.1.1.1.1.2, ⟨hk.1.1.1.1.1.1.1.1.2, ⟨hk.1.1.1.1.2, hk.2⟩⟩⟩⟩⟩⟩⟩⟩⟩)⟩, ⟨by (with_reducible repeat (first | apply Kd.R_alloc | apply Kd.R_drewN | apply Kd.R_drew)); exact Kd.R_mono HO332.1 (fun _ hk => ⟨hk.1.2, hk.2⟩)⟩, ⟨by (with_reducible repeat (first | apply Kd.N_alloc | apply Kd.N_drewN | apply Kd.N_drew)); exact Kd.N_mono HO335.1 (fun _ hk => ⟨hk.1.1.1.2, ⟨hk.1.1.1.1.1.2.1, ⟨hk.1.1.1.1.1.2.2.1, ⟨hk.1.1.1.1.1.1, ⟨hk.1.1.2, ⟨hk.1.2, ⟨hk.1.1.1.1.1.2.2.2.2.1, ⟨hk.1.1.1.1.1.2.2.2.2.2, ⟨hk.1.1.1.1.2, hk.2⟩⟩⟩⟩⟩⟩⟩⟩⟩)⟩, ⟨by (with_reducible repeat (first | apply Kd.R_alloc | apply Kd.R_drewN | apply Kd.R_drew)); exact Kd.R_mono HO345.1 (fun _ hk => ⟨hk.1.2, hk.2⟩)⟩, ⟨by (with_reducible repeat (first | apply Kd.N_alloc | apply Kd.N_drewN | apply Kd.N_drew)); exact Kd.N_mono HO348.1 (fun _ hk => ⟨hk.1.2.2.2.2.2.2.1, ⟨hk.1.2.1, ⟨hk.1.2.2.1, ⟨hk.1.2.2.2.2.1, ⟨hk.1.2.2.2.2.2.1, ⟨hk.1.1, ⟨hk.1.2.2.2.2.2.2.2.1, ⟨hk.1.2.2.2.2.2.2.2.2.1, ⟨hk.1.2.2.2.2.2.2.2.2.2, hk.2⟩⟩⟩⟩⟩⟩⟩⟩⟩)⟩, ⟨pbk BK314.1⟩, ⟨pbk BK320.1⟩, ⟨pbk BK337.1⟩, ⟨pbk BK350.1⟩, ⟨pbg⟩⟩
 clear HC9
 try clear c2 c2b0 c2b1 q17 c46 c46b0 c46b1 c47 c48 c48b0 c48b1 c49 c51 c53 c54 c54b0 c54b1 c55 c55b0 c55b1 c56 c56b0 z12_0 z12_1 z12_2 z16_0 z16_1 z16_2 z20_0 z20_1 z20_2 z21_0 z21_1 z21_2 z23_0 z23_1 z23_2 z25_0 z25_1 z25_2 z27_0 z27_1 z27_2 z32_0 z32_1 z32_2 z35_0 z35_1 z35_2 z37_0 z37_1 z37_2 z43_0 z43_1 z43_2 z60_0 z60_1 z60_2 z64_0 z64_1 z64_2 y12_0 y12_1 y12_2 y16_0 y16_1 y16_2 y20_0 y20_1 y20_2 y21_0 y21_1 y21_2 y23_0 y23_1 y23_2 y25_0 y25_1 y25_2 y27_0 y27_1 y27_2 y32_0 y32_1 y32_2 y35_0 y35_1 y35_2 y37_0 y37_1 y37_2 y43_0 y43_1 y43_2 y60_0 y60_1 y60_2 y64_0 y64_1 y64_2 hx353_0 hx353_1 p353 q17 q353
 obtain ⟨kq, x90_8, rfl, HA, HJ8, HO_11, HO_315001, HO_315002, HO_321001, HO_338001, HO_338002, HO_351001, HO_351002, BK314, BK320, BK337, BK350, HB⟩ := hcut
 obtain _ | kj8 := kq
 ·exact absurd HA.1 (by simp [petrinetlaw43_lives.j0])
 have H := HA.1
 clear HA
 simp only [petrinetlaw43_lives.j0] at H
 by_cases c67 : x90_8 = true
 ·subst c67
  rw [if_pos rfl] at H
  exact absurd H (by simp)
 replace c67 := Bool.eq_false_iff.mpr c67
 subst c67
 rw [if_neg Bool.false_ne_true] at H
 replace H := ifp H
 obtain ⟨c68, H⟩ := H
 have c68b0 : ((t330.length : Int) == 2) = true := beq_iff_eq.mpr c68
 have c68b1 : ((t330.length : Int) != 2) = false := bne_eq_false_iff_eq.mpr c68
 clear c68
 replace H := ifp H
 obtain ⟨c69, H⟩ := H
 have c69b0 := decide_eq_true c69
 have c69b1 : decide (0 < t330.length) = true := decide_eq_true (by omega)
 clear c69
 replace H := ifp H
 obtain ⟨c70, H⟩ := H
 have c70b0 : (((rd_T52 t330 0).f1) == 1) = true := beq_iff_eq.mpr c70
 have c70b1 : (((rd_T52 t330 0).f1) != 1) = false := bne_eq_false_iff_eq.mpr c70
 clear c70
 replace H := ifp H
 obtain ⟨c71, H⟩ := H
 have c71b0 := decide_eq_true c71
 have c71b1 : decide (1 < t330.length) = true := decide_eq_true (by omega)
 clear c71
 replace H := ifp H
 obtain ⟨c72, H⟩ := H
 have c72b0 : (((rd_T52 t330 1).f1) == 0) = true := beq_iff_eq.mpr c72
 have c72b1 : (((rd_T52 t330 1).f1) != 0) = false := bne_eq_false_iff_eq.mpr c72
 clear c72
 replace H := ifp H
 obtain ⟨c73, H⟩ := H
 have c73b0 : (t336 == 0) = true := beq_iff_eq.mpr c73
 have c73b1 : (t336 != 0) = false := bne_eq_false_iff_eq.mpr c73
 clear c73
 replace H := ifp H
 obtain ⟨c74, H⟩ := H
 have c74b0 : ((t338.length : Int) == 2) = true := beq_iff_eq.mpr c74
 have c74b1 : ((t338.length : Int) != 2) = false := bne_eq_false_iff_eq.mpr c74
 clear c74
 replace H := ifp H
 obtain ⟨c75, H⟩ := H
 have c75b0 := decide_eq_true c75
 have c75b1 : decide (0 < t338.length) = true := decide_eq_true (by omega)
 clear c75
 replace H := ifp H
 obtain ⟨c76, H⟩ := H
 have c76b0 : ((rd t338 0) == 0) = true := beq_iff_eq.mpr c76
 have c76b1 : ((rd t338 0) != 0) = false := bne_eq_false_iff_eq.mpr c76
 clear c76
 replace H := ifp H
 obtain ⟨c77, H⟩ := H
 have c77b0 := decide_eq_true c77
 have c77b1 : decide (1 < t338.length) = true := decide_eq_true (by omega)
 clear c77
 replace H := ifp H
 obtain ⟨c78, H⟩ := H
 have c78b0 : ((rd t338 1) == 1) = true := beq_iff_eq.mpr c78
 have c78b1 : ((rd t338 1) != 1) = false := bne_eq_false_iff_eq.mpr c78
 clear c78
 replace H := ifp H
 obtain ⟨c79, H⟩ := H
 have c79b0 : (t341 == 0) = true := beq_iff_eq.mpr c79
 have c79b1 : (t341 != 0) = false := bne_eq_false_iff_eq.mpr c79
 clear c79
 replace H := ifp H
 obtain ⟨c80, H⟩ := H
 have c80b0 : ((t346.length : Int) == 2) = true := beq_iff_eq.mpr c80
 have c80b1 : ((t346.length : Int) != 2) = false := bne_eq_false_iff_eq.mpr c80
 clear c80
 replace H := ifp H
 obtain ⟨c81, H⟩ := H
 have c81b0 := decide_eq_true c81
 have c81b1 : decide (1 < t346.length) = true := decide_eq_true (by omega)
 clear c81
 replace H := ifp H
 obtain ⟨c82, H⟩ := H
 have c82b0 : (((rd_T48 t346 1).f0).toList == ([95, 99, 108, 111, 115, 101] : List UInt8)) = true := beq_iff_eq.mpr c82
 have c82b1 : (((rd_T48 t346 1).f0).toList != ([95, 99, 108, 111, 115, 101] : List UInt8)) = false := bne_eq_false_iff_eq.mpr c82
 clear c82
 replace H := ifp H
 obtain ⟨c83, H⟩ := H
 have c83b0 : (t349 == 0) = true := beq_iff_eq.mpr c83
 have c83b1 : (t349 != 0) = false := bne_eq_false_iff_eq.mpr c83
 clear c83
 replace H := bnd H
 obtain ⟨⟨t359, t360, t363, t366⟩, A84, H⟩ := H
 (try dsimp only at H)
 obtain rfl := Option.some.inj H
 have hnb85 := NB337_314.1
 have hnc85 := NB314_337.1
 have hnb86 := NB337_320.1
 have hnc86 := NB320_337.1
 have hnb87 := NB337_350.1
 have hnc87 := NB350_337.1
 obtain ⟨z88_0, z88_1, z88_2, y88_0, y88_1, y88_2⟩ := cf3 BK337.1
 have p354 : 0 ≤ (0 : Int) := (by omega)
 have q354 : 0 < (t330.length : Int) := dq
 obtain ⟨ad354, e354, hx354_0, hx354_1, hx354_2⟩ := at_T52 (Kd.R_reads' HO_338001.1).2.2 0 p354 q354
 cases e354
 have qi354 : (0 < t330.length) = True := eq_true (by omega)
 (try rw [show ((0 : Int)).toNat = 0 from rfl] at hx354_0)
 (try rw [show 0 * 3 = 0 from rfl] at hx354_0)
 (try rw [Addr.add_zero'] at hx354_0)
 (try rw [show ((0 : Int)).toNat = 0 from rfl] at hx354_1)
 (try rw [show 0 * 3 = 0 from rfl] at hx354_1)
 (try rw [Addr.add_zero'] at hx354_1)
 (try rw [show ((0 : Int)).toNat = 0 from rfl] at hx354_2)
 (try rw [show 0 * 3 = 0 from rfl] at hx354_2)
 (try rw [Addr.add_zero'] at hx354_2)
 replace p354 := eq_true p354
 replace q354 := eq_true q354
 have p355 : 0 ≤ (1 : Int) := (by omega)
 have q355 : 1 < (t330.length : Int) := dq
 obtain ⟨ad355, e355, hx355_0, hx355_1, hx355_2⟩ := at_T52 (Kd.R_reads' HO_338001.1).2.2 1 p355 q355
 obtain rfl : ad354 = ad355 := (by injection e355)
 (try simp only [show (1 : Int).toNat = 1 from rfl, Nat.reduceMul, Nat.reduceEqDiff, Go.Addr.add, ↓reduceIte] at hx355_0)
 (try simp only [show (1 : Int).toNat = 1 from rfl, Nat.reduceMul, Nat.reduceEqDiff, Go.Addr.add, ↓reduceIte] at hx355_1)
 (try simp only [show (1 : Int).toNat = 1 from rfl, Nat.reduceMul, Nat.reduceEqDiff, Go.Addr.add, ↓reduceIte] at hx355_2)
 have qi355 : (1 < t330.length) = True := eq_true (by omega)
 (try rw [show ((1 : Int)).toNat = 1 from rfl] at hx355_0)
 (try rw [show 1 * 3 = 3 from rfl] at hx355_0)
 (try rw [show ((1 : Int)).toNat = 1 from rfl] at hx355_1)
 (try rw [show 1 * 3 = 3 from rfl] at hx355_1)
 (try rw [show ((1 : Int)).toNat = 1 from rfl] at hx355_2)
 (try rw [show 1 * 3 = 3 from rfl] at hx355_2)
 replace p355 := eq_true p355
 replace q355 := eq_true q355
 obtain ⟨Ao89, co89, eo89⟩ := Kd.R_slice HO_11.1
 subst eo89
 have p356 : 0 ≤ (0 : Int) := (by omega)
 have q356 : 0 < (t338.length : Int) := dq
 obtain ⟨ad356, e356, hx356_0⟩ := Kd.at_int (Kd.R_reads' HO_11.1).2.2 0 p356 q356
 cases e356
 have qi356 : (0 < t338.length) = True := eq_true (by omega)
 (try rw [show ((0 : Int)).toNat = 0 from rfl] at hx356_0)
 (try rw [Addr.add_zero'] at hx356_0)
 replace p356 := eq_true p356
 replace q356 := eq_true q356
 have p357 : 0 ≤ (1 : Int) := (by omega)
 have q357 : 1 < (t338.length : Int) := dq
 obtain ⟨ad357, e357, hx357_0⟩ := Kd.at_int (Kd.R_reads' HO_11.1).2.2 1 p357 q357
 obtain rfl : ad356 = ad357 := (by injection e357)
 (try simp only [show (1 : Int).toNat = 1 from rfl, Nat.reduceMul, Nat.reduceEqDiff, Go.Addr.add, ↓reduceIte] at hx357_0)
 have qi357 : (1 < t338.length) = True := eq_true (by omega)
 (try rw [show ((1 : Int)).toNat = 1 from rfl] at hx357_0)
 replace p357 := eq_true p357
 replace q357 := eq_true q357
 have hnb90 := NB350_314.1
 have hnc90 := NB314_350.1
 have hnb91 := NB350_320.1
 have hnc91 := NB320_350.1
 obtain ⟨z92_0, z92_1, z92_2, y92_0, y92_1, y92_2⟩ := cf3 BK350.1
 have p358 : 0 ≤ (1 : Int) := (by omega)
 have q358 : 1 < (t346.length : Int) := dq
 obtain ⟨ad358, A358_1, c358_1, A358_2, c358_2, A358_3, c358_3, e358, hx358_0, hx358_1, hx358_2, hx358_3, hx358_4, hl358_1, hi358_1, hl358_2, hi358_2, hl358_3, hi358_3⟩ := at_T48 (Kd.N_reads' HO_351002.1).2.2 1 p358 q358
 cases e358
 obtain ⟨ce358, hce358, hMe358, hcc358⟩ := Kd.N_get HO_351002.1 z48 1 p358 (by first | exact q358 | exact dq | (have e_ := (Kd.N_reads' HO_351002.1).1; omega))
 obtain ⟨ua358_1, uc358_1, ua358_2, uc358_2, ua358_3, uc358_3, rfl, ul358_1, ge358_1, ul358_2, ge358_2, ul358_3, ge358_3⟩ := k48_openF hMe358
 have hv358_1 := hcc358 1 _ rfl
 rw [add_field _ _ 1 (by omega)] at hv358_1
 replace hv358_1 := Option.some.inj (hv358_1.symm.trans hx358_1)
 injection hv358_1 with hva_ hvn_ hvc_
 rw [hva_] at ge358_1
 rw [hvc_] at ul358_1
 have HL358_1 := am (show Kd.V k55 55 _ w.heap.size _ _ ((rd_T48 t346 1).f1) from Kd.V_mk ul358_1 ge358_1)
 clear hva_ hvn_ hvc_ ge358_1 ul358_1
 have hv358_2 := hcc358 2 _ rfl
 rw [add_field _ _ 2 (by omega)] at hv358_2
 replace hv358_2 := Option.some.inj (hv358_2.symm.trans hx358_2)
 injection hv358_2 with hva_ hvn_ hvc_
 rw [hva_] at ge358_2
 rw [hvc_] at ul358_2
 have HL358_2 := am (show Kd.V k55 55 _ w.heap.size _ _ ((rd_T48 t346 1).f2) from Kd.V_mk ul358_2 ge358_2)
 clear hva_ hvn_ hvc_ ge358_2 ul358_2
 have hv358_3 := hcc358 3 _ rfl
 rw [add_field _ _ 3 (by omega)] at hv358_3
 replace hv358_3 := Option.some.inj (hv358_3.symm.trans hx358_3)
 injection hv358_3 with hva_ hvn_ hvc_
 rw [hva_] at ge358_3
 rw [hvc_] at ul358_3
 have HL358_3 := am (show Kd.V k55 55 _ w.heap.size _ _ ((rd_T48 t346 1).f3) from Kd.V_mk ul358_3 ge358_3)
 clear hva_ hvn_ hvc_ ge358_3 ul358_3 hcc358 hce358
 (try simp only [show (1 : Int).toNat = 1 from rfl, Nat.reduceMul, Nat.reduceEqDiff, Go.Addr.add, ↓reduceIte] at hx358_0)
 (try simp only [show (1 : Int).toNat = 1 from rfl, Nat.reduceMul, Nat.reduceEqDiff, Go.Addr.add, ↓reduceIte] at hx358_1)
 (try simp only [show (1 : Int).toNat = 1 from rfl, Nat.reduceMul, Nat.reduceEqDiff, Go.Addr.add, ↓reduceIte] at hx358_2)
 (try simp only [show (1 : Int).toNat = 1 from rfl, Nat.reduceMul, Nat.reduceEqDiff, Go.Addr.add, ↓reduceIte] at hx358_3)
 (try simp only [show (1 : Int).toNat = 1 from rfl, Nat.reduceMul, Nat.reduceEqDiff, Go.Addr.add, ↓reduceIte] at hx358_4)
 have qi358 : (1 < t346.length) = True := eq_true (by omega)
 (try rw [show ((1 : Int)).toNat = 1 from rfl] at hx358_0)
 (try rw [show 1 * 5 = 5 from rfl] at hx358_0)
 (try rw [show ((1 : Int)).toNat = 1 from rfl] at hx358_1)
 (try rw [show 1 * 5 = 5 from rfl] at hx358_1)
 (try rw [show ((1 : Int)).toNat = 1 from rfl] at hx358_2)
 (try rw [show 1 * 5 = 5 from rfl] at hx358_2)
 (try rw [show ((1 : Int)).toNat = 1 from rfl] at hx358_3)
 (try rw [show 1 * 5 = 5 from rfl] at hx358_3)
 (try rw [show ((1 : Int)).toNat = 1 from rfl] at hx358_4)
 (try rw [show 1 * 5 = 5 from rfl] at hx358_4)
 have HR358_1 := am hi358_1
 have HC358_1 := am hl358_1
 clear hi358_1 hl358_1
 have HR358_2 := am hi358_2
 have HC358_2 := am hl358_2
 clear hi358_2 hl358_2
 have HR358_3 := am hi358_3
 have HC358_3 := am hl358_3
 clear hi358_3 hl358_3
 replace p358 := eq_true p358
 replace q358 := eq_true q358
 have hnb93 := NB320_314.1
 have hnc93 := NB314_320.1
 obtain ⟨z94_0, z94_1, z94_2, y94_0, y94_1, y94_2⟩ := cf3 BK320.1
 go_wp2_with (first | ((with_reducible refine gate_callee (f := 25) rfl ?_); refine gC 156 Try.func25 _ (workflow_Close.calls kj8 (⟨#[110]⟩ : ByteArray) _ _ y315 _ _ ([] : List (S48)) t359 t360 t363 t366 _ (csd ((Kd.V_reads' HO_321001.1).2.2)) ((Kd.V_reads' HO_321001.1).2.1) (Kd.C_nil _ _) (Nat.le_refl _) A84.1) ?_; rintro e w95 ⟨v361, v364, rfl, ho0, ho1, hb⟩; refine ⟨_, rfl, ?_⟩; have HO362 := am (Kd.R_lower (Kd.R_new' (Kd.R_new' (Kd.R_new' ho0 (Kd.R_lt (pkr HO_315001.1))) (Kd.R_lt (pkr HO_338001.1))) (Kd.R_lt (pkr HO_351001.1))) (below_size pbg)); have HO365 := am (Kd.N_lower (Kd.N_mono (ok' := fun k_ => some k_ ≠ (v361 : Value).ownBlock ∧ some k_ ≠ (.slice (some ad356) t338.length co89 : Value).ownBlock ∧ some k_ ≠ (.slice Ao13 t308.length co13 : Value).ownBlock ∧ some k_ ≠ (.slice Ao14 t311.length co14 : Value).ownBlock ∧ some k_ ≠ (.slice (some ad354) t330.length co33 : Value).ownBlock ∧ some k_ ≠ (.slice Ao34 t333.length co34 : Value).ownBlock ∧ some k_ ≠ (.slice Ao44 t343.length co44 : Value).ownBlock ∧ some k_ ≠ (.slice (some ad358) t346.length co45 : Value).ownBlock ∧ k_ ≠ gb314 ∧ k_ ≠ gb320 ∧ k_ ≠ gb337 ∧ k_ ≠ gb350) (Kd.S_N (Kd.S_bound (Kd.S_apart' ho1 (Kd.R_typed ho0) (by decide)))) (fun k_ hk_ => ⟨hk_.1.2, (Kd.fresh' (Kd.R_lt (pkr HO_11.1)) k_ hk_.2.1), (Kd.fresh' (Kd.R_lt (pkr HO_315001.1)) k_ hk_.2.1), (Kd.fresh' (Kd.N_lt (pkn HO_315002.1)) k_ hk_.2.1), (Kd.fresh' (Kd.R_lt (pkr HO_338001.1)) k_ hk_.2.1), (Kd.fresh' (Kd.N_lt (pkn HO_338002.1)) k_ hk_.2.1), (Kd.fresh' (Kd.R_lt (pkr HO_351001.1)) k_ hk_.2.1), (Kd.fresh' (Kd.N_lt (pkn HO_351002.1)) k_ hk_.2.1), (Kd.freshB (g := gb314) (o := .cells #[.string t307, .slice Ao13 t308.length co13, .slice Ao14 t311.length co14] 25 (0, 0)) (by exact pbk BK314.1) k_ hk_.2.1), (Kd.freshB (g := gb320) (o := .cells #[.string (⟨#[110]⟩ : ByteArray), .slice Ao13 y315.length co13, .slice none 0 0] 25 (0, 0)) (by exact pbk BK320.1) k_ hk_.2.1), (Kd.freshB (g := gb337) (o := .cells #[.string t329, .slice (some ad354) t330.length co33, .slice Ao34 t333.length co34] 25 (0, 0)) (by exact pbk BK337.1) k_ hk_.2.1), (Kd.freshB (g := gb350) (o := .cells #[.string t342, .slice Ao44 t343.length co44, .slice (some ad358) t346.length co45] 25 (0, 0)) (by exact pbk BK350.1) k_ hk_.2.1)⟩)) (below_size pbg)); replace HO_11 := rbw HO_11 hb; replace HO_315001 := am (Kd.R_elder' (pkr HO_315001.1) (Kd.R_base ho0) hb); replace HO_315002 := am (Kd.N_mono (Kd.N_told (Kd.N_told (Kd.N_old (pkn HO_315002.1) hb) (Kd.R_base ho0)) (Kd.S_base ho1)) (fun _ h_ => h_.1)); replace HO_321001 := am (Kd.V_mono (Kd.V_told (Kd.V_told (Kd.V_old (pkv HO_321001.1) hb) (Kd.R_base ho0)) (Kd.S_base ho1)) (fun _ h_ => h_.1)); replace HO_338001 := am (Kd.R_elder' (pkr HO_338001.1) (Kd.R_base ho0) hb); replace HO_338002 := am (Kd.N_mono (Kd.N_told (Kd.N_told (Kd.N_old (pkn HO_338002.1) hb) (Kd.R_base ho0)) (Kd.S_base ho1)) (fun _ h_ => h_.1)); replace HO_351001 := am (Kd.R_elder' (pkr HO_351001.1) (Kd.R_base ho0) hb); replace HO_351002 := am (Kd.N_mono (Kd.N_told (Kd.N_told (Kd.N_old (pkn HO_351002.1) hb) (Kd.R_base ho0)) (Kd.S_base ho1)) (fun _ h_ => h_.1)); replace HL358_1 := am (Kd.V_mono (Kd.V_told (Kd.V_told (Kd.V_old (pkv HL358_1.1) hb) (Kd.R_base ho0)) (Kd.S_base ho1)) (fun _ h_ => h_.1)); replace HL358_2 := am (Kd.V_mono (Kd.V_told (Kd.V_told (Kd.V_old (pkv HL358_2.1) hb) (Kd.R_base ho0)) (Kd.S_base ho1)) (fun _ h_ => h_.1)); replace HL358_3 := am (Kd.V_mono (Kd.V_told (Kd.V_told (Kd.V_old (pkv HL358_3.1) hb) (Kd.R_base ho0)) (Kd.S_base ho1)) (fun _ h_ => h_.1)); replace BK314 := bbh BK314 hb; replace BK320 := bbh BK320 hb; replace BK337 := bbh BK337 hb; replace BK350 := bbh BK350 hb; replace HR358_1 := cbb HR358_1 hb; replace HR358_2 := cbb HR358_2 hb; replace HR358_3 := cbb HR358_3 hb; replace HB := bst hb; (try clear hb); (try clear ho0); (try clear ho1)) | ((with_reducible refine gate_dst (N := 15) rfl ?_); (try (refine gate_guard (by rfl) ?_; dsimp only)); refine box_ev (N := 15) (cs := #[.string (⟨#[]⟩ : ByteArray), .slice none 0 0, .slice none 0 0]) (t := 25) ?_; intro gb367 hg w96 hbox hb; have BK367 := am hbox; have GW367 := gwb hg; have GE367 := GW367; have NB314_367 := nlt hg BK314; have NB367_314 := ngt hg BK314; have NB320_367 := nlt hg BK320; have NB367_320 := ngt hg BK320; have NB337_367 := nlt hg BK337; have NB367_337 := ngt hg BK337; have NB350_367 := nlt hg BK350; have NB367_350 := ngt hg BK350; replace HO_11 := rbw HO_11 hb; replace HO_315001 := rbw HO_315001 hb; replace HO_315002 := am (Kd.N_below (Kd.N_elderB (pkn HO_315002.1) gb367 (Nat.le_of_eq hg.symm)) hb); replace HO_321001 := vbb HO_321001 hg hb; replace HO_338001 := rbw HO_338001 hb; replace HO_338002 := am (Kd.N_below (Kd.N_elderB (pkn HO_338002.1) gb367 (Nat.le_of_eq hg.symm)) hb); replace HO_351001 := rbw HO_351001 hb; replace HO_351002 := am (Kd.N_below (Kd.N_elderB (pkn HO_351002.1) gb367 (Nat.le_of_eq hg.symm)) hb); replace HL358_1 := vbb HL358_1 hg hb; replace HL358_2 := vbb HL358_2 hg hb; replace HL358_3 := vbb HL358_3 hg hb; replace HO362 := rbw HO362 hb; replace HO365 := am (Kd.N_below (Kd.N_elderB (pkn HO365.1) gb367 (Nat.le_of_eq hg.symm)) hb); replace BK314 := bbh BK314 hb; replace BK320 := bbh BK320 hb; replace BK337 := bbh BK337 hb; replace BK350 := bbh BK350 hb; replace HR358_1 := cbb HR358_1 hb; replace HR358_2 := cbb HR358_2 hb; replace HR358_3 := cbb HR358_3 hb; replace HB := bst hb; clear hb hbox hg; have hnb97 := NB367_314.1; have hnc97 := NB314_367.1; have hnb98 := NB367_320.1; have hnc98 := NB320_367.1; have hnb99 := NB367_337.1; have hnc99 := NB337_367.1; have hnb100 := NB367_350.1; have hnc100 := NB350_367.1; obtain ⟨z101_0, z101_1, z101_2, y101_0, y101_1, y101_2⟩ := cf3 BK367.1; obtain ⟨Ao102, co102, eo102⟩ := Kd.R_slice HO362.1; subst eo102; obtain ⟨Ao103, co103, eo103⟩ := Kd.N_slice HO365.1; subst eo103))
 go_ret
 exact ⟨per, pbg⟩

end Go.Proofs.Ytnoebjmhimehcaa.P
