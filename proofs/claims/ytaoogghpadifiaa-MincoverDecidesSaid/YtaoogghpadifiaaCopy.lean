/- 'copy' into a row of the call's own: what the row holds behind it. -/
import Derived.Laws.IdiomCopy
import Derived.Test.YtaoogghpadifiaaAid
namespace Go.Proofs.Ytaoogghpadifiaa.P
open Go.RowKit Go.Proofs.YtaoogghpadifiaaW.PrintWords Go.Proofs.YtaoogghpadifiaaW.PrintLast Go.Proofs.YtaoogghpadifiaaW.PrintMore
/-- What a row holds behind copy(xs, ys). -/
def cpy {α : Type} (xs ys : List α) : List α := ys.take xs.length ++ xs.drop ys.length
theorem cpy_length {α : Type} (xs ys : List α) : (cpy xs ys).length = xs.length := by unfold cpy; simp only [List.length_append, List.length_take, List.length_drop]; omega
theorem cpy_all {α : Type} (xs ys : List α) (h : xs.length = ys.length) : cpy xs ys = ys := by unfold cpy; rw [h, List.take_length, ← h, List.drop_length, List.append_nil]
section
variable {α : Type} {enc : α → Value} {h1 : ∀ x, (enc x).oneCell' = true} {e base g cap : Nat} {ok : Nat → Prop}
theorem setCells_row : ∀ (ys : List α) (o : Nat) (W : World) (xs : List α), (Kd.scalar enc h1).R e W base ok (.slice (some ⟨g, 0, none⟩) xs.length cap) xs → o + ys.length ≤ xs.length → g < W.heap.size →
    (Kd.scalar enc h1).R e (W.setCells g o (ys.map enc)) base ok (.slice (some ⟨g, 0, none⟩) xs.length cap) (xs.take o ++ (ys ++ xs.drop (o + ys.length))) ∧ W.grownBy (W.setCells g o (ys.map enc)) (some g)
  | [], o, W, xs, h, _, hg => by
    refine ⟨by simpa [World.setCells] using h, ?_⟩
    have := (Kd.R_put h 0 (enc := enc) (h1 := h1))
    exact ⟨rfl, rfl, rfl, Nat.le_refl _, fun k _ _ => rfl⟩
  | y :: ys, o, W, xs, h, hl, hg => by
    simp only [List.length_cons] at hl
    obtain ⟨hr, hgr⟩ := Kd.R_put h (o : Int) y
    rw [Int.toNat_natCast] at hr hgr
    have hr' : (Kd.scalar enc h1).R e (W.setCell ⟨g, o, none⟩ (enc y)) base ok (.slice (some ⟨g, 0, none⟩) (xs.set o y).length cap) (xs.set o y) := by rw [List.length_set]; exact hr
    obtain ⟨h2, g2⟩ := setCells_row ys (o + 1) _ _ hr' (by rw [List.length_set]; omega) (by have := hgr.size; omega)
    refine ⟨?_, hgr.trans g2⟩
    rw [List.length_set] at h2
    have e1 : (xs.set o y).take (o + 1) ++ (ys ++ (xs.set o y).drop (o + 1 + ys.length)) = xs.take o ++ ((y :: ys) ++ xs.drop (o + (y :: ys).length)) := by
      rw [List.drop_set_of_lt (by omega), List.take_succ_eq_append_getElem (by rw [List.length_set]; omega), List.getElem_set_self, List.take_set_of_le (Nat.le_refl _)]
      simp only [List.append_assoc, List.length_cons, List.cons_append, List.nil_append]
      rw [show o + 1 + ys.length = o + (ys.length + 1) by omega]
    rw [e1] at h2
    exact h2
end
section
variable {P : Program} {ops : Array Oper} {rest : List Oper} {o : Oper} {a : Act} {Q : Exit → Act → World → Prop} {W : World}
variable {α : Type} {enc : α → Value} {h1 : ∀ x, (enc x).oneCell' = true}
/-- The law at a walk's 'copy' into a row of the call's own. -/
theorem R_copy {w0 : World} (base : Nat) (hgd : o.guard = none) (dd s : Operand) (dT sT e : TypeId)
    (ho : o.op = .call { callee := .builtin .copy, args := #[dd, s], argTypes := #[dT, sT] }) (hu : P.underlying dT = some (.slice e)) (hsz : (P.info? e).map (·.size) = some 1)
    (v : Value) (xs ys : List α) (ok : Nat → Prop) (A : Option Addr) (c : Nat) (hd : a.eval dd = v) (hs : a.eval s = .slice A ys.length c)
    (HO : (Kd.scalar enc h1).R e W base ok v xs) (hC : (Kd.scalar enc h1).C W A ys.length ys) (HB : Below base w0 W) (hbase : base ≤ W.heap.size)
    (h : ∀ w1 n, (Kd.scalar enc h1).R e w1 base ok v (cpy xs ys) → Below base w0 w1 → W.grownBy w1 v.ownBlock → wpList P ops Q rest (a.put o.dst (goInt n)) w1) : wpList P ops Q (o :: rest) a W := by
  obtain ⟨A', c', rfl⟩ := Kd.R_slice HO
  refine wpList_plain hgd fun K hK => ?_
  by_cases h0 : Nat.min ys.length xs.length = 0
  · have hrun := run_copy_none (P := P) W dT sT o.type e A' A xs.length c' ys.length c hu hsz h0
    unfold Oper.wp
    simp [execOp, ho, resolve, invoke, builtin, hd, hs, hrun, Result.andThen]
    refine hK _ _ (h W 0 ?_ HB ⟨rfl, rfl, rfl, Nat.le_refl _, fun k _ _ => rfl⟩)
    have e1 : cpy xs ys = xs := by
      unfold cpy
      have hm : ys.length = 0 ∨ xs.length = 0 := by
        rcases Nat.le_total ys.length xs.length with hh | hh
        · left; rw [← h0]; exact (Nat.min_eq_left hh).symm
        · right; rw [← h0]; exact (Nat.min_eq_right hh).symm
      rcases hm with hm | hm
      · rw [List.eq_nil_of_length_eq_zero hm]; simp
      · rw [List.eq_nil_of_length_eq_zero hm]; simp
    rw [e1]; exact HO
  · have hm : Nat.min ys.length xs.length = min ys.length xs.length := rfl
    have hx0 : 0 < xs.length := by rw [hm] at h0; omega
    obtain ⟨g, cap, he, hbg, hgl, cells, hcells⟩ := Kd.R_form HO hx0
    injection he with he1 he2 he3
    subst he1 he3
    obtain ⟨_, hn2, hn3⟩ := hC
    obtain ⟨ad, rfl, hcell⟩ := hn3 (by rw [hm] at h0; omega)
    have hl : ((ys.take xs.length).map enc).length = Nat.min ys.length xs.length := by rw [List.length_map, List.length_take, hm]; omega
    have hrun := run_copy_cells (P := P) W dT sT o.type e g 0 xs.length c' ad ys.length c ((ys.take xs.length).map enc) hu hsz hl
      (fun j u hj => by
        rw [List.getElem?_map, Option.map_eq_some_iff] at hj
        obtain ⟨p, hp, rfl⟩ := hj
        have hp2 : ys[j]? = some p := by
          rw [List.getElem?_take] at hp
          split at hp
          · exact hp
          · cases hp
        obtain ⟨cs, _, hk, hc⟩ := hcell j p hp2
        have hk : cs = [enc p] := hk
        have := hc 0 (enc p) (by rw [hk]; rfl)
        rw [show (Kd.scalar enc h1).sz = 1 from rfl, Nat.mul_one, Nat.add_zero] at this
        exact this)
      (fun j hj => by
        rw [hl, hm] at hj
        have := (Kd.R_celln (d := ys.getD 0 (xs.getD 0 (by exact (xs[0]'hx0)))) HO (j : Int) (by omega) (by omega)).1
        rw [Int.toNat_natCast] at this
        rw [Nat.zero_add, this]; rfl)
      (fun j hj => by
        rw [hl, hm] at hj
        have := (Kd.R_celln (d := ys.getD 0 (xs.getD 0 (by exact (xs[0]'hx0)))) HO (j : Int) (by omega) (by omega)).2
        rw [Int.toNat_natCast] at this
        rw [Nat.zero_add]; exact this)
      (fun u hu2 => by obtain ⟨p, _, rfl⟩ := List.mem_map.1 hu2; exact h1 p)
    obtain ⟨r1, g1⟩ := setCells_row (ys.take xs.length) 0 W xs HO (by rw [Nat.zero_add, List.length_take]; omega) hgl
    have e1 : xs.take 0 ++ (ys.take xs.length ++ xs.drop (0 + (ys.take xs.length).length)) = cpy xs ys := by
      unfold cpy
      rw [List.take_zero, List.nil_append, Nat.zero_add, List.length_take]
      congr 1
      rcases Nat.le_total ys.length xs.length with hh | hh
      · rw [Nat.min_eq_right hh]
      · rw [Nat.min_eq_left hh, List.drop_length, List.drop_of_length_le hh]
    rw [e1, List.map_take] at r1
    rw [List.map_take] at g1 hrun
    unfold Oper.wp
    simp [execOp, ho, resolve, invoke, builtin, hd, hs, hrun, Result.andThen]
    exact hK _ _ (h _ _ r1 (HB.grown g1 hbase (fun k hk => by injection hk with hk; rw [← hk]; exact hbg)) g1)
end
end Go.Proofs.Ytaoogghpadifiaa.P
