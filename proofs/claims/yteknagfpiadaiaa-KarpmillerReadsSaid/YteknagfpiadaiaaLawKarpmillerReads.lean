/- The row of the statement KarpmillerReads: for every input that can be read the call returns true; out of the plain theorem and the walk. No condition. -/
import Derived.Test.YteknagfpiadaiaaRows
import Derived.Test.YteknagfpiadaiaaPx19
import Derived.Test.YteknagfpiadaiaaPureKarpmillerReads
import Derived.Test.YteknagfpiadaiaaReads
import Derived.Test.YteknagfpiadaiaaAid
import Derived.WalkKit
import Derived.ProofKit
import Derived.OpenShut
import Derived.ShutString
import Derived.ChangeOld
import Derived.Below
import Derived.SizedLaws
namespace Go.Proofs.Yteknagfpiadaiaa.karpmillerReads
open Go.ChangeShapes Go.WideShapes Go.ChangeAt Go.RowKit Go.Proofs.Yteknagfpiadaiaa.Reads Go.Proofs.YteknagfpiadaiaaW.PrintWords
open Go.ChangeMaps (open_string shut_string)
theorem own : ownKnob Try.prog.godebug = none := by kernel_rfl
theorem laidOut : laidOutB Try.prog = true := by kernel_rfl
set_option maxRecDepth 100000 in
theorem lifted (os : Os) (started : os.Started) (H : Type) (enc : TypeId × Value → H) :
    ReturnsInHanded {} Try.checked os 8 .any (Rows.karpmillerReadsSpec.pre6 enc Try.prog Try.f8 Rows.karpmillerReadsRow.domain false) (Rows.karpmillerReadsSpec.post enc Try.prog Try.f8 false true false false) := by
  refine returnsInHanded_of_change_sized (C := Try.checked) own started (by kernel_rfl) Try.func8
    (ChangeSpec.witness6 (enc := enc) (C := Try.checked) false ⟨#[], #[.slice none 0 0, .int .i64 0], []⟩ 8 (by kernel_rfl) (by kernel_rfl) (by kernel_rfl) (by kernel_rfl)) ?_
  intro W base args ds gs before hval0 hW hcnd hsz0 _
  have hval : ∀ (j : Nat) t v, Try.f8.params[j]? = some t → args[j]? = some v → Value.okWide Try.prog W .any base t v := hval0
  have hW' := hW
  obtain ⟨p, q, hA0, hV, rfl, hfz, hnd⟩ := hW
  have hA : DataW.TrodAll enc Try.prog W 0 (fun _ => true) true Try.f8.params.toList args.toList ds p := hA0
  rw [Try.params8] at hA hval
  obtain ⟨v0, vs0, d0, ds0, p0, q0, hargs, rfl, rfl, h0, r0⟩ := trodAll_cons hA
  obtain ⟨v1, vs1, d1, ds1, p1, q1, rfl, rfl, rfl, h1, r1⟩ := trodAll_cons r0
  obtain ⟨rfl, rfl, rfl⟩ := trodAll_nil r1
  obtain rfl : args = #[v0, v1] := by cases args; simp_all
  obtain ⟨rfl, rfl⟩ := trodVars_none hV
  obtain ⟨A0, len0, cap0, rfl⟩ := okWide_slice Try.underlying36 (hval 0 36 v0 rfl rfl)
  have k0 := h0
  have lt0 : ∀ x ∈ p0, x.block < W.heap.size := by obtain ⟨m, hm⟩ := k0; exact DataW.trod_lt m _ _ _ hm
  obtain ⟨fu0, hf0⟩ := h0
  obtain ⟨l0, ⟨A'0, c'0, e0, hc0, hC0⟩, w0⟩ := (opens_slice Try.underlying36 (opens_iso (opens_struct Try.underlying48 (opensL_cons (opens_int Try.underlying3) rfl (by kernel_rfl) (opensL_cons (opens_int Try.underlying3) rfl (by kernel_rfl) (opensL_cons (opens_slice Try.underlying26 (opens_int Try.underlying3) (by kernel_rfl)) rfl (by kernel_rfl) (opensL_one (opens_bool Try.underlying4) rfl (by kernel_rfl))))) (by kernel_rfl)) (fun x : P.S48 => (x.f0, x.f1, x.f2, x.f3)) (fun v => ⟨v.1, v.2.1, v.2.2.1, v.2.2.2⟩) (fun _ => rfl)) (by kernel_rfl)) H enc W fu0 _ _ hf0
  simp [Value.cells] at e0
  obtain ⟨rfl, rfl, rfl⟩ := e0
  obtain ⟨a1, rfl, rfl, rfl, w1⟩ := open_int Try.underlying3 (hval 1 3 v1 rfl rfl) h1
  obtain ⟨k, hk⟩ := Pure.KarpmillerReads l0 w0 a1 w1
  refine (P.petrinetlaw22_KarpmillerReads.calls k _ _ l0 a1 true W hC0 hc0 hk).mono fun e W' ⟨he, hbel⟩ => ?_
  have bel : Below W.heap.size W W' := hbel
  subst he
  exact ⟨_, rfl, _, _, _, [], _, [], hW', trodAll_mk1 (shut_bool Try.underlying4 _), (trodAll_cons_mk (Below.trod laidOut (by kernel_rfl) (of_decide_eq_true (by kernel_rfl)) k0 bel lt0) (trodAll_cons_mk (shut_int Try.underlying3 w1) trodAll_mk0)), rfl, bel.frame _, fun h => by cases h⟩
theorem over : Rows.karpmillerReadsRow.holds Try.pinned (OpenSpec.ofChange Rows.karpmillerReadsSpec) :=
  OpenClaim.holds_of_wide 8 Try.f8 rfl rfl rfl rfl rfl rfl rfl ⟨rfl, rfl, rfl, rfl, rfl⟩ rfl rfl rfl rfl rfl (by kernel_rfl) Try.func8 (by kernel_rfl)
    (of_decide_eq_true (by kernel_rfl)) (by unfold Func.isWrapper; first | (rw [if_pos (by decide +kernel)]; kernel_rfl) | (rw [if_neg (by decide +kernel)]; exact ⟨rfl, rfl⟩))
    (fun os started H enc _ => lifted os started H enc)
theorem proved : Rows.KarpmillerReadsSaid := over
#print axioms proved
end Go.Proofs.Yteknagfpiadaiaa.karpmillerReads
namespace Go.Proofs.Yteknagfpiadaiaa
/-- The row, under a short name, for the claim. -/
theorem karpmillerReads_holds : Rows.KarpmillerReadsSaid := karpmillerReads.proved
end Go.Proofs.Yteknagfpiadaiaa
