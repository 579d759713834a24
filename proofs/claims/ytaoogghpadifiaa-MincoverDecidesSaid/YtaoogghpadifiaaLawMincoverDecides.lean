/- The row of the statement MincoverDecides: for every input that can be read the call returns true; out of the plain theorem and the walk. No condition. -/
import Derived.Test.YtaoogghpadifiaaRows
import Derived.Test.YtaoogghpadifiaaPx20
import Derived.Test.YtaoogghpadifiaaPureMincoverDecides
import Derived.Test.YtaoogghpadifiaaReads
import Derived.Test.YtaoogghpadifiaaAid
import Derived.Test.YtaoogghpadifiaaReadsW
import Derived.WalkKit
import Derived.ProofKit
import Derived.OpenShut
import Derived.ShutString
import Derived.ChangeOld
import Derived.Below
import Derived.SizedLaws
structure Go.Proofs.Ytaoogghpadifiaa.P.S25 where
  f0 : ByteArray
  f1 : List Go.Proofs.Ytaoogghpadifiaa.P.S64
  f2 : List Go.Proofs.Ytaoogghpadifiaa.P.S38
namespace Go.Proofs.Ytaoogghpadifiaa.mincoverDecides
open Go.ChangeShapes Go.WideShapes Go.ChangeAt Go.RowKit Go.Proofs.Ytaoogghpadifiaa.Reads Go.Proofs.YtaoogghpadifiaaW.PrintWords
open Go.ChangeMaps (open_string shut_string)
theorem own : ownKnob Try.prog.godebug = none := by kernel_rfl
theorem laidOut : laidOutB Try.prog = true := by kernel_rfl
set_option maxRecDepth 100000 in
theorem lifted (os : Os) (started : os.Started) (H : Type) (enc : TypeId × Value → H) :
    ReturnsInHanded {} Try.checked os 7 .any (Rows.mincoverDecidesSpec.pre6 enc Try.prog Try.f7 Rows.mincoverDecidesRow.domain false) (Rows.mincoverDecidesSpec.post enc Try.prog Try.f7 false true false false) := by
  refine returnsInHanded_of_change_sized (C := Try.checked) own started (by kernel_rfl) Try.func7
    (ChangeSpec.witness6 (enc := enc) (C := Try.checked) false ⟨#[], #[.agg #[.string ByteArray.empty, .slice none 0 0, .slice none 0 0], .slice none 0 0, .slice none 0 0], []⟩ 8 (by kernel_rfl) (by kernel_rfl) (by kernel_rfl) (by kernel_rfl)) ?_
  intro W base args ds gs before hval0 hW hcnd hsz0 _
  have hval : ∀ (j : Nat) t v, Try.f7.params[j]? = some t → args[j]? = some v → Value.okWide Try.prog W .any base t v := hval0
  have hW' := hW
  obtain ⟨p, q, hA0, hV, rfl, hfz, hnd⟩ := hW
  have hA : DataW.TrodAll enc Try.prog W 0 (fun _ => true) true Try.f7.params.toList args.toList ds p := hA0
  rw [Try.params7] at hA hval
  obtain ⟨v0, vs0, d0, ds0, p0, q0, hargs, rfl, rfl, h0, r0⟩ := trodAll_cons hA
  obtain ⟨v1, vs1, d1, ds1, p1, q1, rfl, rfl, rfl, h1, r1⟩ := trodAll_cons r0
  obtain ⟨v2, vs2, d2, ds2, p2, q2, rfl, rfl, rfl, h2, r2⟩ := trodAll_cons r1
  obtain ⟨rfl, rfl, rfl⟩ := trodAll_nil r2
  obtain rfl : args = #[v0, v1, v2] := by cases args; simp_all
  obtain ⟨rfl, rfl⟩ := trodVars_none hV
  obtain ⟨cs0, rfl, hz0⟩ := okWide_struct Try.underlying25 (hval 0 25 v0 rfl rfl)
  have k0 := h0
  have lt0 : ∀ x ∈ p0, x.block < W.heap.size := by obtain ⟨m, hm⟩ := k0; exact DataW.trod_lt m _ _ _ hm
  obtain ⟨fu0, hf0⟩ := h0
  obtain ⟨x0, hx0, w0⟩ := (opens_iso (opens_struct Try.underlying25 (opensL_cons (opens_string Try.underlying9) rfl (by kernel_rfl) (opensL_cons (opens_slice Try.underlying22 (opens_iso (opens_struct Try.underlying64 (opensL_cons (opens_string Try.underlying9) rfl (by kernel_rfl) (opensL_cons (opens_int Try.underlying3) rfl (by kernel_rfl) (opensL_one (opens_int Try.underlying3) rfl (by kernel_rfl)))) (by kernel_rfl)) (fun x : P.S64 => (x.f0, x.f1, x.f2)) (fun v => ⟨v.1, v.2.1, v.2.2⟩) (fun _ => rfl)) (by kernel_rfl)) rfl (by kernel_rfl) (opensL_one (opens_slice Try.underlying23 (opens_iso (opens_struct Try.underlying38 (opensL_cons (opens_string Try.underlying9) rfl (by kernel_rfl) (opensL_cons (opens_slice Try.underlying36 (opens_iso (opens_struct Try.underlying68 (opensL_cons (opens_int Try.underlying3) rfl (by kernel_rfl) (opensL_one (opens_int Try.underlying3) rfl (by kernel_rfl))) (by kernel_rfl)) (fun x : P.S68 => (x.f0, x.f1)) (fun v => ⟨v.1, v.2⟩) (fun _ => rfl)) (by kernel_rfl)) rfl (by kernel_rfl) (opensL_cons (opens_slice Try.underlying36 (opens_iso (opens_struct Try.underlying68 (opensL_cons (opens_int Try.underlying3) rfl (by kernel_rfl) (opensL_one (opens_int Try.underlying3) rfl (by kernel_rfl))) (by kernel_rfl)) (fun x : P.S68 => (x.f0, x.f1)) (fun v => ⟨v.1, v.2⟩) (fun _ => rfl)) (by kernel_rfl)) rfl (by kernel_rfl) (opensL_cons (opens_slice Try.underlying36 (opens_iso (opens_struct Try.underlying68 (opensL_cons (opens_int Try.underlying3) rfl (by kernel_rfl) (opensL_one (opens_int Try.underlying3) rfl (by kernel_rfl))) (by kernel_rfl)) (fun x : P.S68 => (x.f0, x.f1)) (fun v => ⟨v.1, v.2⟩) (fun _ => rfl)) (by kernel_rfl)) rfl (by kernel_rfl) (opensL_one (opens_int Try.underlying3) rfl (by kernel_rfl)))))) (by kernel_rfl)) (fun x : P.S38 => (x.f0, x.f1, x.f2, x.f3, x.f4)) (fun v => ⟨v.1, v.2.1, v.2.2.1, v.2.2.2.1, v.2.2.2.2⟩) (fun _ => rfl)) (by kernel_rfl)) rfl (by kernel_rfl)))) (by kernel_rfl)) (fun x : P.S25 => (x.f0, x.f1, x.f2)) (fun v => ⟨v.1, v.2.1, v.2.2⟩) (fun _ => rfl)) H enc W fu0 _ _ hf0
  obtain ⟨c0_0, r0_0, e0_0, g0_0, t0_0⟩ := hx0
  obtain ⟨c0_1, r0_1, e0_1, g0_1, t0_1⟩ := t0_0
  have g0_2 := t0_1
  have q0_0 := (show _ = [_] from g0_0)
  obtain ⟨A0_1, z0_1, q0_1, hc0_1, hC0_1⟩ := g0_1
  obtain ⟨A0_2, z0_2, q0_2, hc0_2, hC0_2⟩ := g0_2
  have ecs0 : cs0 = #[.string x0.f0, .slice A0_1 (x0.f1).length z0_1, .slice A0_2 (x0.f2).length z0_2] := by
    apply Array.toList_inj.1
    show (Value.cells (.agg cs0)).toList = _
    rw [e0_0]
    rw [e0_1]
    rw [q0_0, q0_1, q0_2]; rfl
  subst ecs0
  obtain ⟨A1, len1, cap1, rfl⟩ := okWide_slice Try.underlying39 (hval 1 39 v1 rfl rfl)
  have k1 := h1
  have lt1 : ∀ x ∈ p1, x.block < W.heap.size := by obtain ⟨m, hm⟩ := k1; exact DataW.trod_lt m _ _ _ hm
  obtain ⟨fu1, hf1⟩ := h1
  obtain ⟨l1, ⟨A'1, c'1, e1, hc1, hC1⟩, w1⟩ := (opensW_slice Try.underlying39 (opensW_of (opens_int Try.underlying3)) (by kernel_rfl) (show _ = 8 from by kernel_rfl)) H enc W fu1 _ _ hf1 (fun n hn => of_decide_eq_true (List.all_eq_true.1 hsz0 n (DataW.weights_mem_each (j := 1) rfl rfl n hn)))
  simp [Value.cells] at e1
  obtain ⟨rfl, rfl, rfl⟩ := e1
  obtain ⟨A2, len2, cap2, rfl⟩ := okWide_slice Try.underlying39 (hval 2 39 v2 rfl rfl)
  have k2 := h2
  have lt2 : ∀ x ∈ p2, x.block < W.heap.size := by obtain ⟨m, hm⟩ := k2; exact DataW.trod_lt m _ _ _ hm
  obtain ⟨fu2, hf2⟩ := h2
  obtain ⟨l2, ⟨A'2, c'2, e2, hc2, hC2⟩, w2⟩ := (opensW_slice Try.underlying39 (opensW_of (opens_int Try.underlying3)) (by kernel_rfl) (show _ = 8 from by kernel_rfl)) H enc W fu2 _ _ hf2 (fun n hn => of_decide_eq_true (List.all_eq_true.1 hsz0 n (DataW.weights_mem_each (j := 2) rfl rfl n hn)))
  simp [Value.cells] at e2
  obtain ⟨rfl, rfl, rfl⟩ := e2
  obtain ⟨k, hk⟩ := Pure.MincoverDecides x0.f0 x0.f1 x0.f2 w0 l1 w1 l2 w2
  refine (P.qAA.calls k (x0.f0) _ _ (x0.f1) _ _ (x0.f2) _ _ l1 _ _ l2 true W hC0_1 hc0_1 hC0_2 hc0_2 hC1 hc1 hC2 hc2 hk).mono fun e W' ⟨he, hbel⟩ => ?_
  have bel : Below W.heap.size W W' := hbel
  subst he
  exact ⟨_, rfl, _, _, _, [], _, [], hW', trodAll_mk1 (shut_bool Try.underlying4 _), (trodAll_cons_mk (Below.trod laidOut (by kernel_rfl) (of_decide_eq_true (by kernel_rfl)) k0 bel lt0) (trodAll_cons_mk (Below.trod laidOut (by kernel_rfl) (of_decide_eq_true (by kernel_rfl)) k1 bel lt1) (trodAll_cons_mk (Below.trod laidOut (by kernel_rfl) (of_decide_eq_true (by kernel_rfl)) k2 bel lt2) trodAll_mk0))), rfl, bel.frame _, fun h => by cases h⟩
theorem over : Rows.mincoverDecidesRow.holds Try.pinned (OpenSpec.ofChange Rows.mincoverDecidesSpec) :=
  OpenClaim.holds_of_wide 7 Try.f7 rfl rfl rfl rfl rfl rfl rfl ⟨rfl, rfl, rfl, rfl, rfl⟩ rfl rfl rfl rfl rfl (by kernel_rfl) Try.func7 (by kernel_rfl)
    (of_decide_eq_true (by kernel_rfl)) (by unfold Func.isWrapper; first | (rw [if_pos (by decide +kernel)]; kernel_rfl) | (rw [if_neg (by decide +kernel)]; exact ⟨rfl, rfl⟩))
    (fun os started H enc _ => lifted os started H enc)
theorem proved : Rows.MincoverDecidesSaid := over
#print axioms proved
end Go.Proofs.Ytaoogghpadifiaa.mincoverDecides
namespace Go.Proofs.Ytaoogghpadifiaa
/-- The row, under a short name, for the claim. -/
theorem mincoverDecides_holds : Rows.MincoverDecidesSaid := mincoverDecides.proved
end Go.Proofs.Ytaoogghpadifiaa
