/- 'copy(l[i+1:], l[i:])' in a row of the call's own, whose elements are one cell each; and what a row of rows holds behind it. -/
import Derived.Laws.CopyRow
import Derived.Test.YtaoogghpadifiaaAid
import Derived.Test.YtaoogghpadifiaaCopy
set_option linter.unusedVariables false
set_option linter.unusedSimpArgs false
namespace Go.Proofs.Ytaoogghpadifiaa.P
open Go.RowKit Go.Proofs.YtaoogghpadifiaaW.PrintWords Go.Proofs.YtaoogghpadifiaaW.PrintLast Go.Proofs.YtaoogghpadifiaaW.PrintMore
/-- Elements i, i+1, .. one place further: the last one falls away. -/
def shf {α : Type} (xs : List α) (i : Nat) : List α := xs.take (i + 1) ++ (xs.drop i).take (xs.length - (i + 1))
theorem shf_len {α : Type} {xs : List α} {i : Nat} (hi : i < xs.length) : (shf xs i).length = xs.length := by
  unfold shf
  simp only [List.length_append, List.length_take, List.length_drop]
  omega
theorem shf_get {α : Type} {xs : List α} {i j : Nat} (hi : i < xs.length) (hj : j < xs.length) : (shf xs i)[j]? = xs[if j ≤ i then j else j - 1]? := by
  unfold shf
  by_cases c : j ≤ i
  · rw [if_pos c, List.getElem?_append_left (by rw [List.length_take]; omega), List.getElem?_take_of_lt (by omega)]
  · rw [if_neg c, List.getElem?_append_right (by rw [List.length_take]; omega), List.length_take, List.getElem?_take_of_lt (by omega), List.getElem?_drop]
    congr 1
    omega
/-- An element put in between. -/
theorem shf_put {α : Type} (ys : List α) (z m : α) {i : Nat} (hi : i ≤ ys.length) : (shf (ys ++ [z]) i).set i m = ys.take i ++ m :: ys.drop i := by
  have hl : (ys ++ [z]).length = ys.length + 1 := by rw [List.length_append, List.length_singleton]
  refine List.ext_getElem? fun j => ?_
  by_cases hj : j < ys.length + 1
  · by_cases e : j = i
    · subst e
      rw [List.getElem?_set_self (by rw [shf_len (by omega)]; omega), List.getElem?_append_right (by rw [List.length_take]; omega), List.length_take]
      rw [show j - min j ys.length = 0 by omega]; rfl
    · rw [List.getElem?_set_ne (by omega), shf_get (by omega) (by omega)]
      by_cases c : j ≤ i
      · rw [if_pos c, List.getElem?_append_left (by omega), List.getElem?_append_left (by rw [List.length_take]; omega), List.getElem?_take_of_lt (by omega)]
      · rw [if_neg c, List.getElem?_append_left (by omega), List.getElem?_append_right (by rw [List.length_take]; omega), List.length_take]
        rw [show j - min i ys.length = (j - 1 - i) + 1 by omega, List.getElem?_cons_succ, List.getElem?_drop]
        congr 1
        omega
  · rw [List.getElem?_eq_none (by rw [List.length_set, shf_len (by omega)]; omega), List.getElem?_eq_none (by simp only [List.length_append, List.length_take, List.length_cons, List.length_drop]; omega)]
section
variable {P : Program} {W : World} {base e n cap g : Nat} {cs : List Value}
theorem own_shift (ho : W.ownsRow base e 1 (.slice (some ⟨g, 0, none⟩) n cap) n cs) (h1 : ∀ u ∈ cs, u.oneCell' = true) {i : Nat} (hi : i < n) (dT ty : TypeId) (hu : P.underlying dT = some (.slice e)) (hs : (P.info? e).map (·.size) = some 1)
    (dA sA : Option Addr) (c1 c2 : Nat) (hd : 0 < n - (i + 1) → dA = some ⟨g, i + 1, none⟩) (hsA : 0 < n - (i + 1) → sA = some ⟨g, i, none⟩) :
    ∃ W1 k, (Builtin.copy_ #[dT, dT] ty #[.slice dA (n - (i + 1)) c1, .slice sA (n - i) c2]).run P W = .ok (goInt k) W1 ∧ W1.ownsRow base e 1 (.slice (some ⟨g, 0, none⟩) n cap) n (shf cs i) ∧ W.grownBy W1 (some g) := by
  obtain ⟨hl, hr⟩ := ho
  rw [Nat.mul_one] at hl
  by_cases h0 : n - (i + 1) = 0
  · refine ⟨W, 0, run_copy_none W dT dT ty e dA sA _ c1 _ c2 hu hs (by rw [h0]; exact Nat.min_zero _), ⟨?_, ?_⟩, ⟨rfl, rfl, rfl, Nat.le_refl _, fun _ _ _ => rfl⟩⟩
    · rw [shf_len (by omega), Nat.mul_one]; exact hl
    · have : shf cs i = cs := by
        unfold shf
        rw [hl, h0, List.take_zero, List.append_nil, List.take_of_length_le (by omega)]
      rw [this]; exact hr
  · rcases hr with ⟨h, _⟩ | ⟨g', cap', cur, hv, hb, hg, hcap, hmax, hsize, htake⟩
    · cases h
    · injection hv with hv1 hv2 hv3
      injection hv1 with hv1
      injection hv1 with hv1
      subst hv1 hv3
      obtain rfl := hd (by omega)
      obtain rfl := hsA (by omega)
      rw [Nat.mul_one] at hsize htake
      have hcur : ∀ j, j < n → cur[j]? = cs[j]? := fun j hj => by
        rw [← htake, List.getElem?_take_of_lt hj, Array.getElem?_toList]
      have hnew : ((cs.drop i).take (n - (i + 1))).length = n - (i + 1) := by
        rw [List.length_take, List.length_drop]; omega
      have hrun := run_copy_row (P := P) W dT dT ty e g (i + 1) (n - (i + 1)) c1 ⟨g, i, none⟩ (n - i) c2 cur e ((cs.drop i).take (n - (i + 1))) hu hs hg (by rw [hnew]; exact (Nat.min_eq_right (by omega)).symm) (fun j v hj => by
        have hjl : j < n - (i + 1) := by have := (List.getElem?_eq_some_iff.1 hj).1; omega
        rw [List.getElem?_take_of_lt hjl, List.getElem?_drop] at hj
        have e1 : (⟨g, i, none⟩ : Addr).add j = ⟨g, i + j, none⟩ := by
          unfold Addr.add; split <;> simp_all
        rw [e1]
        simp [World.cell?, hg, hcur (i + j) (by omega), hj]) (by rw [hnew]; omega) (fun u hu' => h1 u (List.mem_of_mem_drop (List.mem_of_mem_take hu')))
      refine ⟨_, _, hrun, ⟨by rw [shf_len (by omega), Nat.mul_one]; exact hl, Or.inr ⟨g, cap, _, rfl, hb, setRow_heap W g _ _ _ _ hg, hcap, hmax, ?_, ?_⟩⟩, ⟨rfl, rfl, rfl, by simp [World.setRow], fun k hk hne => setRow_other W g k _ (fun e => hne (by rw [e]))⟩⟩
      · rw [Nat.mul_one]
        simp only [List.size_toArray, List.length_append, List.length_take, List.length_drop, Array.length_toList]
        omega
      · rw [Nat.mul_one, List.toList_toArray, hnew, show i + 1 + (n - (i + 1)) = n by omega]
        have hA : (cur.toList.take (i + 1) ++ (cs.drop i).take (n - (i + 1))).length = n := by
          rw [List.length_append, hnew, List.length_take, Array.length_toList]; omega
        rw [List.take_append_of_le_length (by rw [hA]; exact Nat.le_refl _), List.take_of_length_le (by rw [hA]; exact Nat.le_refl _)]
        unfold shf
        rw [hl]
        congr 1
        rw [← htake, List.take_take, Nat.min_eq_left (show i + 1 ≤ n by omega)]
theorem own_put (ho : W.ownsRow base e 1 (.slice (some ⟨g, 0, none⟩) n cap) n cs) {i : Nat} (hi : i < n) (u : Value) : (W.setCell ⟨g, i, none⟩ u).ownsRow base e 1 (.slice (some ⟨g, 0, none⟩) n cap) n (cs.set i u) ∧ W.grownBy (W.setCell ⟨g, i, none⟩ u) (some g) := by
  obtain ⟨hl, hr⟩ := ho
  rcases hr with ⟨h, _⟩ | ⟨g', cap', cur, hv, hb, hg, hcap, hmax, hsize, htake⟩
  · cases h
  · injection hv with hv1 hv2 hv3
    injection hv1 with hv1
    injection hv1 with hv1
    subst hv1 hv3
    refine ⟨⟨by rw [List.length_set]; exact hl, Or.inr ⟨g, cap, cur.setIfInBounds i u, rfl, hb, blk_set hg i u, hcap, hmax, by simpa using hsize, ?_⟩⟩, ?_⟩
    · rw [Array.toList_setIfInBounds, ← htake, List.take_set]
    · exact ⟨by unfold World.setCell; split <;> rfl, by unfold World.setCell; split <;> rfl, by unfold World.setCell; split <;> rfl, by simp [World.setCell], fun k hk hne => Below.heap_setCell W _ u k (fun e => hne (by rw [e]))⟩
end
theorem own_cell1 {W : World} {base e n cap g : Nat} {cs : List Value} (ho : W.ownsRow base e 1 (.slice (some ⟨g, 0, none⟩) n cap) n cs) {i : Nat} (hi : i < n) : ∃ u, W.cell? ⟨g, i, none⟩ = some u ∧ W.frozen? ⟨g, i, none⟩ = false := by
  obtain ⟨hl, hr⟩ := ho
  rcases hr with ⟨h, _⟩ | ⟨g', cap', cur, hv, hb, hg, hcap, hmax, hsize, htake⟩
  · cases h
  · injection hv with hv1 hv2 hv3
    injection hv1 with hv1
    injection hv1 with hv1
    subst hv1 hv3
    rw [Nat.mul_one] at hsize htake
    have hi' : i < cur.size := by
      have := congrArg List.length htake
      rw [List.length_take, Array.length_toList, hl] at this
      omega
    refine ⟨cur[i], ?_, ?_⟩
    · simp [World.cell?, hg, hi']
    · simp [World.frozen?, hg]
section
variable {α : Type} {d : Kd α} {P : Program} {W W1 : World} {base e cap g n : Nat} {ok : Nat → Prop} {v : Value} {xs ys : List α} {cs : List Value}
/-- A row of rows by its cells. -/
theorem N_open1 (hs : d.sz = 1) (h : Kd.N d e W base ok v xs) : (∀ k, v.ownBlock = some k → ok k) ∧ ∃ cs : List Value, cs.length = xs.length ∧ W.ownsRow base e 1 v xs.length cs ∧ (∀ u ∈ cs, u.oneCell' = true) ∧ ∀ (j : Nat) (x : α) (u : Value), xs[j]? = some x → cs[j]? = some u → Kd.FK d W (fun k => ok k ∧ some k ≠ v.ownBlock) x [u] := by
  obtain ⟨h0, rows, hl, ⟨_, inner, ho, hr1, hr2⟩, hf⟩ := h
  rw [hs] at ho hr1 hr2
  have hs1 : (Kd.raw 1).sz = 1 := rfl
  rw [hs1] at ho hr1 hr2
  rw [Nat.mul_one] at hr1
  have one : ∀ j c, rows[j]? = some c → ∃ u : Value, c = [u] ∧ inner[j]? = some u ∧ u.oneCell' = true := fun j c hj => by
    obtain ⟨e1, e2, e3⟩ := hr2 j c hj
    rw [e1] at e2 e3
    obtain ⟨u, rfl⟩ := List.length_eq_one_iff.1 e2
    refine ⟨u, rfl, ?_, e3 u (List.mem_singleton.2 rfl)⟩
    have := congrArg (fun l => l[0]?) e1
    simpa using this
  refine ⟨h0, inner, by omega, by rw [← hl]; exact ho, fun u hu => ?_, fun j x u hx hu => ?_⟩
  · obtain ⟨j, hj, rfl⟩ := List.getElem_of_mem hu
    obtain ⟨u, _, e2, e3⟩ := one j _ (List.getElem?_eq_getElem (by omega))
    rw [List.getElem?_eq_getElem hj] at e2
    rw [Option.some.inj e2]; exact e3
  · have hj := (List.getElem?_eq_some_iff.1 hu).1
    obtain ⟨u', e1, e2, _⟩ := one j _ (List.getElem?_eq_getElem (by omega))
    rw [hu] at e2
    obtain rfl := Option.some.inj e2
    have := hf j x _ hx (List.getElem?_eq_getElem (by omega))
    rw [e1] at this
    exact this
theorem N_mk1 (hs : d.sz = 1) (h0 : ∀ k, v.ownBlock = some k → ok k) (hl : cs.length = xs.length) (ho : W.ownsRow base e 1 v xs.length cs) (h1 : ∀ u ∈ cs, u.oneCell' = true) (hf : ∀ (j : Nat) (x : α) (u : Value), xs[j]? = some x → cs[j]? = some u → Kd.FK d W (fun k => ok k ∧ some k ≠ v.ownBlock) x [u]) : Kd.N d e W base ok v xs := by
  refine ⟨h0, cs.map (fun u => [u]), by rw [List.length_map]; exact hl, ⟨fun k hk => hk.symm, cs, ?_, ?_, fun j c hj => ?_⟩, fun j x c hx hc => ?_⟩
  · rw [List.length_map, hl, hs]; exact ho
  · rw [List.length_map, hs]; show cs.length = cs.length * 1; omega
  · rw [List.getElem?_map] at hj
    obtain ⟨u, hu, rfl⟩ := Option.map_eq_some_iff.1 hj
    rw [hs]
    obtain ⟨hjl, hju⟩ := List.getElem?_eq_some_iff.1 hu
    have e : List.take 1 (List.drop (j * 1) cs) = [u] := by rw [Nat.mul_one, List.drop_eq_getElem_cons hjl, hju]; rfl
    show List.take 1 (List.drop (j * 1) cs) = [u] ∧ (List.take 1 (List.drop (j * 1) cs)).length = 1 ∧ ∀ u' ∈ List.take 1 (List.drop (j * 1) cs), u'.oneCell' = true
    rw [e]
    exact ⟨rfl, rfl, fun u' hu' => by rw [List.mem_singleton.1 hu']; exact h1 u (List.mem_of_getElem? hu)⟩
  · rw [List.getElem?_map] at hc
    obtain ⟨u, hu, rfl⟩ := Option.map_eq_some_iff.1 hc
    exact hf j x u hx hu
theorem N_shift (hs : d.sz = 1) (h : Kd.N d e W base ok (.slice (some ⟨g, 0, none⟩) xs.length cap) xs) {i : Nat} (hi : i < xs.length) (dT ty : TypeId) (hu : P.underlying dT = some (.slice e)) (hsz : (P.info? e).map (·.size) = some 1)
    (dA sA : Option Addr) (c1 c2 : Nat) (hd : 0 < xs.length - (i + 1) → dA = some ⟨g, i + 1, none⟩) (hsA : 0 < xs.length - (i + 1) → sA = some ⟨g, i, none⟩) :
    ∃ W1 k, (Builtin.copy_ #[dT, dT] ty #[.slice dA (xs.length - (i + 1)) c1, .slice sA (xs.length - i) c2]).run P W = .ok (goInt k) W1 ∧ Kd.N d e W1 base ok (.slice (some ⟨g, 0, none⟩) xs.length cap) (shf xs i) ∧ W.grownBy W1 (some g) := by
  obtain ⟨h0, cs, hl, ho, h1, hf⟩ := N_open1 hs h
  obtain ⟨W1, k, e1, e2, e3⟩ := own_shift ho h1 hi dT ty hu hsz dA sA c1 c2 hd hsA
  refine ⟨W1, k, e1, N_mk1 (cs := shf cs i) hs h0 (by rw [shf_len (by omega), shf_len hi, hl]) (by rw [shf_len hi]; exact e2) (fun u hu' => ?_) (fun j x u hx hu' => ?_), e3⟩
  · unfold shf at hu'
    rcases List.mem_append.1 hu' with h | h
    · exact h1 u (List.mem_of_mem_take h)
    · exact h1 u (List.mem_of_mem_drop (List.mem_of_mem_take h))
  · have hj : j < xs.length := by
      have := (List.getElem?_eq_some_iff.1 hx).1
      rw [shf_len hi] at this; exact this
    rw [shf_get hi hj] at hx
    rw [shf_get (show i < cs.length by omega) (show j < cs.length by omega)] at hu'
    exact Kd.FK_grown (hf _ x u hx hu') e3 (fun k hk => hk.2)
theorem N_put1 (hs : d.sz = 1) (h : Kd.N d e W base ok (.slice (some ⟨g, 0, none⟩) xs.length cap) xs) {i : Nat} (hi : i < xs.length) {x : α} {u : Value} (hx : Kd.FK d W (fun k => ok k ∧ k ≠ g) x [u]) (h1u : u.oneCell' = true) :
    Kd.N d e (W.setCell ⟨g, i, none⟩ u) base ok (.slice (some ⟨g, 0, none⟩) xs.length cap) (xs.set i x) ∧ W.grownBy (W.setCell ⟨g, i, none⟩ u) (some g) := by
  obtain ⟨h0, cs, hl, ho, h1, hf⟩ := N_open1 hs h
  obtain ⟨e2, e3⟩ := own_put ho hi u
  refine ⟨N_mk1 (cs := cs.set i u) hs h0 (by rw [List.length_set, List.length_set]; exact hl) (by rw [List.length_set]; exact e2) (fun u' hu' => ?_) (fun j y u' hy hu' => ?_), e3⟩
  · rcases List.mem_or_eq_of_mem_set hu' with h | h
    · exact h1 u' h
    · rw [h]; exact h1u
  · by_cases c : j = i
    · subst c
      rw [List.getElem?_set_self (by omega)] at hy hu'
      obtain rfl := Option.some.inj hy
      obtain rfl := Option.some.inj hu'
      exact Kd.FK_grown (Kd.FK_mono hx (fun k hk => ⟨hk.1, fun e => hk.2 (by simpa [Value.ownBlock] using e)⟩)) e3 (fun k hk => hk.2)
    · rw [List.getElem?_set_ne (fun e => c e.symm)] at hy hu'
      exact Kd.FK_grown (hf j y u' hy hu') e3 (fun k hk => hk.2)
end
theorem N_cell1 {α : Type} {d : Kd α} {W : World} {base e cap g : Nat} {ok : Nat → Prop} {xs : List α} (hs : d.sz = 1) (h : Kd.N d e W base ok (.slice (some ⟨g, 0, none⟩) xs.length cap) xs) {i : Nat} (hi : i < xs.length) : ∃ u, W.cell? ⟨g, i, none⟩ = some u ∧ W.frozen? ⟨g, i, none⟩ = false := by
  obtain ⟨h0, cs, hl, ho, h1, hf⟩ := N_open1 hs h
  exact own_cell1 ho hi
theorem N_form {α : Type} {d : Kd α} {w : World} {base e : Nat} {ok : Nat → Prop} {v : Value} {xs : List α} (h : Kd.N d e w base ok v xs) (hp : 0 < xs.length) : ∃ g cap, v = .slice (some ⟨g, 0, none⟩) xs.length cap ∧ base ≤ g ∧ g < w.heap.size ∧ xs.length ≤ cap := by
  obtain ⟨_, rows, hl, hR, _⟩ := h
  obtain ⟨A, c, e1, e2, _⟩ := Kd.R_reads hR
  obtain ⟨g, cap, he, hb, hlt, _⟩ := Kd.R_form hR (by rw [hl]; exact hp)
  rw [hl] at he e1 e2
  rw [he] at e1
  injection e1 with _ _ e3
  exact ⟨g, cap, he, hb, hlt, by omega⟩
theorem copy_run {P : Program} {oi : Oper} {a : Act} {w w1 : World} {k : Int} {u v : Value} {dT : TypeId} (dd s : Operand) (ho : oi.op = .call { callee := .builtin .copy, args := #[dd, s], argTypes := #[dT, dT] }) (hd : a.eval dd = u) (hs : a.eval s = v)
    (hrun : (Builtin.copy_ #[dT, dT] oi.type #[u, v]).run P w = .ok (goInt k) w1) : (execOp a.eval oi).run P w = .ok (.value (goInt k)) w1 := by
  unfold execOp
  simp [ho, resolve, invoke, builtin, hd, hs, hrun, Result.andThen]
section
variable {P : Program} {ops : Array Oper} {Q : Exit → Act → World → Prop}
/-- A call through a value that holds a function and its first arguments. -/
theorem goesV_ {rest : List Oper} {oi : Oper} {a : Act} {w : World} (N : Option Tmp) (hd : oi.dst = N) (hg : oi.guard = none) {f : FuncId} {fn : Func} {u : Operand} {as : Array Operand} {ts : Array TypeId} (first : Array Value) (hf : P.funcs[f]? = some fn) (hname : (fn.name == "runtime.NumGoroutine") = false) (hb : fn.body.isSome = true) (args : Array Value)
    (hop : oi.op = .call { callee := .value u, args := as, argTypes := ts }) (hu : a.eval u = .func (.func f) first #[]) (hargs : first ++ as.map a.eval = args)
    (h : Calls P f args w fun e w' => ∃ v, e = .returned v ∧ wpList P ops Q rest (a.put N v) w') : wpList P ops Q (oi :: rest) a w := by
  refine wpList_plain hg fun K hK => ?_
  have he := enters_ hf hname hb args w
  have hrun : (execOp a.eval oi).run P w = .ok (.enter f args) w := by
    unfold execOp
    simp [hop, resolve, Deferred.ofValue, invoke, hu, hargs, he]
  unfold Oper.wp
  rw [hrun, Oper.upon_enter]
  refine h.mono fun e w'' hh => ?_
  obtain ⟨v, rfl, hk⟩ := hh
  subst hd
  exact hK _ _ hk
end
theorem from_run {P : Program} {w : World} {t e : TypeId} (ht : P.underlying t = some (.slice e)) (hs : (P.info? e).map (·.size) = some 1) {g n cap i : Nat} (hi : i ≤ n) (hn : n ≤ cap) :
    (Instr.sliceAt t (.slice (some ⟨g, 0, none⟩) n cap) (some (.int .i64 (i : Int))) none none).run P w = .ok (.slice (if cap = i then some ⟨g, 0, none⟩ else some ⟨g, i, none⟩) (n - i) (cap - i)) w := by
  have he : P.elem t = e := by simp [Program.elem, ht]
  have ht' : P.underlying t = some (.slice (P.elem t)) := by rw [he]; exact ht
  have hz : (sizeOf e).run P w = .ok 1 w := by
    obtain ⟨i, h1, h2⟩ := Option.map_eq_some_iff.1 hs
    have h3 : (typeInfo e).run P w = .ok i w := by simp [typeInfo, h1]
    simp [sizeOf, h3, h2, Result.andThen]
  have ha : (⟨g, 0, none⟩ : Addr).add i = ⟨g, i, none⟩ := by unfold Addr.add; split <;> simp_all
  rw [run_sliceAt_slice (h := ht'), run_slice_any (ht := ht')]
  simp [Instr.sliceBounds, run_sliceBound, sliced, Result.andThen, he, hz, ha, hi, hn, Int.toNat_natCast]
theorem slice_run {P : Program} {oi : Oper} {a : Act} {w : World} {t e : TypeId} (x lo : Operand) {z : Int} (ho : oi.op = .slice t x (some lo) none none) (ht : P.underlying t = some (.slice e)) (hs : (P.info? e).map (·.size) = some 1) {g n cap : Nat} (i : Nat) (hx : a.eval x = .slice (some ⟨g, 0, none⟩) n cap) (hlo : a.eval lo = .int .i64 z) (hz : z = (i : Int)) (hi : i ≤ n) (hn : n ≤ cap) :
    (execOp a.eval oi).run P w = .ok (.value (.slice (if cap = i then some ⟨g, 0, none⟩ else some ⟨g, i, none⟩) (n - i) (cap - i))) w := by
  have h := from_run (P := P) (w := w) ht hs hi hn (g := g)
  unfold execOp
  subst hz
  simp [ho, hx, hlo, h, Result.andThen]
theorem addr_add0 (g i : Nat) : (⟨g, 0, none⟩ : Addr).add i = ⟨g, i, none⟩ := by unfold Addr.add; split <;> simp_all
theorem move_run {P : Program} {oi : Oper} {a : Act} {w : World} {v : Value} (u : Operand) (ho : oi.op = .move u) (hu : a.eval u = v) : (execOp a.eval oi).run P w = .ok (.value v) w := by
  unfold execOp
  simp [ho, hu]
theorem add_run {P : Program} {oi : Oper} {a : Act} {w : World} {x y : Int} {t t' : TypeId} (u u' : Operand) (ho : oi.op = .binOp .add t u u' t') (hu : a.eval u = .int .i64 x) (hu' : a.eval u' = .int .i64 y) : (execOp a.eval oi).run P w = .ok (.value (.int .i64 (wrap64 (x + y)))) w := by
  unfold execOp
  simp only [ho, hu, hu']
  go_simp
  exact i64_w _
end Go.Proofs.Ytaoogghpadifiaa.P
