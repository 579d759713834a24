/- 'copy' of all elements of a row, each of several cells, into a new row of the call's own. -/
import Derived.Laws.CopyRow
import Derived.Test.YtnoebjmhimehcaaAid
namespace Go.Proofs.Ytnoebjmhimehcaa.P
open Go.RowKit Go.Proofs.YtnoebjmhimehcaaW.PrintWords Go.Proofs.YtnoebjmhimehcaaW.PrintLast Go.Proofs.YtnoebjmhimehcaaW.PrintMore
theorem run_copy_rowk {P : Program} (w : World) (dT sT ty elem : TypeId) (g dLen dCap : Nat) (a : Addr) (sLen sCap : Nat) (cur : Array Value) (t : TypeId) (cs : List Value) (k : Nat)
    (hu : P.underlying dT = some (.slice elem)) (hs : (P.info? elem).map (·.size) = some k)
    (hg : w.heap[g]? = some (.cells cur t (0, 0))) (hn : cs.length = Nat.min sLen dLen * k)
    (hsrc : ∀ j v, cs[j]? = some v → w.cell? (a.add j) = some v) (hfit : cs.length ≤ cur.size) (h1 : ∀ v ∈ cs, v.oneCell' = true) :
    (Builtin.copy_ #[dT, sT] ty #[.slice (some ⟨g, 0, none⟩) dLen dCap, .slice (some a) sLen sCap]).run P w =
      .ok (goInt (Nat.min sLen dLen)) (w.setRow g (cs ++ cur.toList.drop cs.length).toArray) := by
  have hl := run_loadCells_list (P := P) w a cs hsrc
  have hst := run_storeCells_at P g 0 t cs 0 cur w hg (by simpa using hfit) h1
  cases hq : P.info? elem with
  | none => simp [hq] at hs
  | some i =>
    have hi : i.size = k := by simpa [hq] using hs
    rw [hn] at hl
    simp [Builtin.copy_, run_underlying hu, Builtin.lenOf, Builtin.firstCells, sizeOf, typeInfo, hq, hi, hl, hst]
theorem run_copy_zero {P : Program} (w : World) (dT sT ty elem : TypeId) (d a : Option Addr) (dCap sCap : Nat) (k : Nat) (hu : P.underlying dT = some (.slice elem)) (hs : (P.info? elem).map (·.size) = some k) :
    (Builtin.copy_ #[dT, sT] ty #[.slice d 0 dCap, .slice a 0 sCap]).run P w = .ok (goInt 0) w := by
  cases hq : P.info? elem with
  | none => simp [hq] at hs
  | some i =>
    have hl : ∀ x : Addr, (loadCells x 0).run P w = .ok #[] w := fun x => run_loadCells_list (P := P) w x [] (fun j v h => by simp at h)
    cases d <;> cases a <;> simp [Builtin.copy_, run_underlying hu, Builtin.lenOf, Builtin.firstCells, sizeOf, typeInfo, hq, hl, storeCells]
theorem flat_at {α : Type} {s : Nat} (cl : α → List Value) (hl : ∀ x, (cl x).length = s) : ∀ (ys : List α) (j i : Nat) (y : α), ys[j]? = some y → i < s → (ys.flatMap cl)[j * s + i]? = (cl y)[i]?
  | [], j, i, y, h, _ => by simp at h
  | x :: ys, 0, i, y, h, hi => by
    simp at h
    subst h
    rw [List.flatMap_cons, Nat.zero_mul, Nat.zero_add, List.getElem?_append_left (by rw [hl]; exact hi)]
  | x :: ys, j + 1, i, y, h, hi => by
    simp at h
    rw [List.flatMap_cons, List.getElem?_append_right (by rw [hl, Nat.succ_mul]; omega), hl]
    rw [show (j + 1) * s + i - s = j * s + i by rw [Nat.succ_mul]; omega]
    exact flat_at cl hl ys j i y h hi
theorem flat_len {α : Type} {s : Nat} (cl : α → List Value) (hl : ∀ x, (cl x).length = s) : ∀ ys : List α, (ys.flatMap cl).length = ys.length * s
  | [] => by simp
  | x :: ys => by rw [List.flatMap_cons, List.length_append, hl, flat_len cl hl ys, List.length_cons, Nat.succ_mul]; omega
section
variable {α : Type} {d : Kd α} {e base g cap : Nat} {ok : Nat → Prop} {W : World}
theorem copy_reps (cl : α → List Value) (hl : ∀ x, (cl x).length = d.sz) {R : α → List Value → Prop} (hR : ∀ x, R x (cl x)) (ys : List α) : Reps R d.sz ys (ys.flatMap cl) := by
  refine ⟨flat_len cl hl ys, fun j y hj => ?_⟩
  have e : ((ys.flatMap cl).drop (j * d.sz)).take d.sz = cl y := by
    refine List.ext_getElem? fun i => ?_
    by_cases hi : i < d.sz
    · rw [List.getElem?_take_of_lt hi, List.getElem?_drop, flat_at cl hl ys j i y hj hi]
    · rw [List.getElem?_eq_none (l := cl y) (by rw [hl]; omega), List.getElem?_eq_none (by rw [List.length_take]; omega)]
  rw [e]; exact hR y
/-- What a row of the call's own holds when all elements of another are copied into it. -/
theorem R_copied {P : Program} (cl : α → List Value) (hl : ∀ x, (cl x).length = d.sz) (hK : ∀ {w x cs}, d.K w x cs → cs = cl x) (hM : ∀ {w base ok x}, d.M w base ok x (cl x)) (h1 : ∀ x, ∀ u ∈ cl x, u.oneCell' = true)
    (dT sT ty : TypeId) (hu : P.underlying dT = some (.slice e)) (hs : (P.info? e).map (·.size) = some d.sz) {v : Value} {xs ys : List α} {A : Option Addr} {c : Nat} (HR : d.R e W base ok v xs) (hv : v.ownBlock ≠ none)
    (hlen : xs.length = ys.length) (HC : d.C W A ys.length ys) :
    ∃ W1 n, (Builtin.copy_ #[dT, sT] ty #[v, .slice A ys.length c]).run P W = .ok (goInt n) W1 ∧ d.R e W1 base ok v ys ∧ W.grownBy W1 v.ownBlock := by
  obtain ⟨hok, inner, ⟨hi1, hi2⟩, hrep⟩ := HR
  rcases hi2 with ⟨rfl, _⟩ | ⟨g, cap, cur, rfl, hb, hg, hcap, hmax, hsize, htake⟩
  · exact absurd rfl hv
  by_cases h0 : ys.length = 0
  · obtain rfl := List.eq_nil_of_length_eq_zero h0
    obtain rfl := List.eq_nil_of_length_eq_zero (hlen.trans h0)
    refine ⟨W, 0, run_copy_zero W dT sT ty e _ A cap c d.sz hu hs, ⟨hok, inner, ⟨hi1, .inr ⟨g, cap, cur, rfl, hb, hg, hcap, hmax, hsize, htake⟩⟩, hrep⟩, ⟨rfl, rfl, rfl, Nat.le_refl _, fun k _ _ => rfl⟩⟩
  · obtain ⟨_, hn2, hn3⟩ := HC
    obtain ⟨ad, rfl, hcell⟩ := hn3 (by omega)
    have hmin : Nat.min ys.length xs.length = ys.length := by rw [hlen]; exact Nat.min_self _
    have hfl := flat_len cl hl ys
    have hfit : (ys.flatMap cl).length ≤ cur.size := by rw [hfl, hsize]; exact Nat.mul_le_mul_right _ (by omega)
    have hrun := run_copy_rowk (P := P) W dT sT ty e g xs.length cap ad ys.length c cur e (ys.flatMap cl) d.sz hu hs hg (by rw [hmin, hfl])
      (fun j u hj => by
        have hjl : j < ys.length * d.sz := by
          have := (List.getElem?_eq_some_iff.1 hj).1
          omega
        have hs0 : 0 < d.sz := Nat.pos_of_ne_zero fun h => by rw [h] at hjl; simp at hjl
        have hq : j / d.sz < ys.length := Nat.div_lt_of_lt_mul (by rw [Nat.mul_comm]; exact hjl)
        have hr : j % d.sz < d.sz := Nat.mod_lt _ hs0
        have hj2 : j = j / d.sz * d.sz + j % d.sz := by rw [Nat.mul_comm]; exact (Nat.div_add_mod j d.sz).symm
        obtain ⟨cs, _, hk, hc⟩ := hcell (j / d.sz) (ys[j / d.sz]) (List.getElem?_eq_getElem hq)
        rw [hK hk] at hc
        rw [hj2, flat_at cl hl ys _ _ _ (List.getElem?_eq_getElem hq) hr] at hj
        rw [hj2]
        exact hc _ _ hj) hfit (fun u hu2 => by obtain ⟨x, _, hx⟩ := List.mem_flatMap.1 hu2; exact h1 x u hx)
    refine ⟨_, _, hrun, ?_, ?_⟩
    · refine ⟨hok, ys.flatMap cl, ⟨hfl, .inr ⟨g, cap, ((ys.flatMap cl) ++ cur.toList.drop (ys.flatMap cl).length).toArray, by rw [hlen], hb, setRow_heap W g cur _ e _ hg, by omega, hmax, ?_, ?_⟩⟩, copy_reps cl hl (fun _ => hM) ys⟩
      · simp
        rw [← hsize]
        have : (ys.flatMap cl).length ≤ cur.size := hfit
        simp at this
        omega
      · simp only [List.take_append, hfl]
        rw [← hfl, List.take_length]; simp
    · refine ⟨rfl, rfl, rfl, by simp [World.setRow], fun k hk hne => ?_⟩
      have hkg : g ≠ k := fun h => hne (by rw [h]; rfl)
      simp only [World.setRow]
      rw [Array.getElem?_modify]
      simp [hkg]
end
section
variable {P : Program} {ops : Array Oper} {rest : List Oper} {o : Oper} {a : Act} {Q : Exit → Act → World → Prop} {W : World} {α : Type} {d : Kd α} {e : Nat} {ok : Nat → Prop}
/-- The law at a walk's 'copy' of all elements of a row into a new row of the call's own. -/
theorem R_copyS {w0 : World} (cl : α → List Value) (hl : ∀ x, (cl x).length = d.sz) (hK : ∀ {w x cs}, d.K w x cs → cs = cl x) (hM : ∀ {w base ok x}, d.M w base ok x (cl x)) (h1 : ∀ x, ∀ u ∈ cl x, u.oneCell' = true)
    (base : Nat) (hgd : o.guard = none) (dd s : Operand) (dT sT : TypeId)
    (ho : o.op = .call { callee := .builtin .copy, args := #[dd, s], argTypes := #[dT, sT] }) (hu : P.underlying dT = some (.slice e)) (hs : (P.info? e).map (·.size) = some d.sz) {v : Value} {xs ys : List α} {A : Option Addr} {c : Nat}
    (hd : a.eval dd = v) (hsv : a.eval s = .slice A ys.length c) (HR : d.R e W base ok v xs) (hv : v.ownBlock ≠ none) (hlen : xs.length = ys.length) (HC : d.C W A ys.length ys) (HB : Below base w0 W) (hbase : base ≤ W.heap.size)
    (h : ∀ w1 n, d.R e w1 base ok v ys → Below base w0 w1 → W.grownBy w1 v.ownBlock → wpList P ops Q rest (a.put o.dst (goInt n)) w1) : wpList P ops Q (o :: rest) a W := by
  obtain ⟨w1, n, hrun, hr, hg⟩ := R_copied (P := P) cl hl hK hM h1 dT sT o.type hu hs (c := c) HR hv hlen HC
  refine wpList_plain hgd fun K hK => ?_
  unfold Oper.wp
  simp [execOp, ho, resolve, invoke, builtin, hd, hsv, hrun, Result.andThen]
  exact hK _ _ (h w1 n hr (HB.grown hg hbase (fun k hk => Kd.R_base HR k hk)) hg)
end
end Go.Proofs.Ytnoebjmhimehcaa.P
