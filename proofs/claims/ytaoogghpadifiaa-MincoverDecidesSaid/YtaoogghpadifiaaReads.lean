/- What a reading of an argument as data says of its cells, kind by kind (plain integers, bools, strings, slices, structs): no condition but that the argument can be read. -/
import Derived.Test.YtaoogghpadifiaaVAll
import Derived.Deep.Slices
import Derived.ChangeMaps5
import Derived.RowKit
namespace Go.Proofs.Ytaoogghpadifiaa.Reads
open Go.ChangeShapes Go.WideShapes Go.Deep Go.Proofs.YtaoogghpadifiaaW.PrintWords

/-- Cells that read as data of type t are a value of kind d; wf: what else holds of the value. -/
def Opens {α : Type} (P : Program) (d : Kd α) (t : TypeId) (wf : α → Prop) : Prop :=
  ∀ (H : Type) (enc : TypeId × Value → H) (w : World) (fuel : Nat) (cs : List Value) (x : DataW H × List MemPlace),
    DataW.trod enc P w 0 (fun _ => true) true fuel t cs = some x → ∃ v, d.K w v cs ∧ wf v

section
variable {P : Program}

theorem opens_int {k : IntKind} {t : TypeId} (ht : P.underlying t = some (.int k)) : Opens P (Kd.int k) t (fun n => (Lit.int k n).wf = true) := by
  intro H enc w fuel cs x h
  cases fuel with
  | zero => simp [DataW.trod] at h
  | succ n =>
    unfold DataW.trod at h
    rw [ht] at h
    match cs, h with
    | [.int k' m], h =>
      simp only at h
      split at h
      · rename_i hk
        obtain ⟨rfl, hw⟩ := hk
        exact ⟨m, rfl, hw⟩
      · cases h

theorem opens_bool {t : TypeId} (ht : P.underlying t = some .bool) : Opens P Kd.bool t (fun _ => True) := by
  intro H enc w fuel cs x h
  cases fuel with
  | zero => simp [DataW.trod] at h
  | succ n =>
    unfold DataW.trod at h
    rw [ht] at h
    match cs, h with
    | [.bool b], h => exact ⟨b, rfl, trivial⟩

theorem opens_string {t : TypeId} (ht : P.underlying t = some .string) : Opens P Kd.string t (fun s => s.size ≤ maxLen) := by
  intro H enc w fuel cs x h
  cases fuel with
  | zero => simp [DataW.trod] at h
  | succ n =>
    unfold DataW.trod at h
    rw [ht] at h
    match cs, h with
    | [.string s], h =>
      simp only at h
      split at h
      · rename_i hk
        exact ⟨s, rfl, hk⟩
      · cases h

theorem opens_slice {α : Type} {d : Kd α} {t e : TypeId} {wf : α → Prop} (ht : P.underlying t = some (.slice e)) (he : Opens P d e wf) (hc : P.cellsOf e = d.sz) :
    Opens P (Kd.slice e d) t (fun l => l.length ≤ maxLen ∧ ∀ x ∈ l, wf x) := by
  intro H enc w fuel cs x h
  rcases open_slice ht h with ⟨rfl, _⟩ | ⟨a, len, cap, m, n, D, Pl, rfl, hb, hl, hm, hmm, _, hx⟩
  · exact ⟨[], ⟨none, 0, rfl, Nat.le_refl _, Kd.C_nil _ _⟩, Nat.zero_le _, by simp⟩
  simp only [if_true] at hmm
  subst hmm
  have each : ∀ i, i < m → ∃ v : α, wf v ∧ ∃ c, c.length = d.sz ∧ d.K w v c ∧ ∀ j u, c[j]? = some u → w.cell? (a.add (i * d.sz + j)) = some u := by
    intro i hi
    obtain ⟨cs', h1, h2⟩ := hx i hi
    obtain ⟨v, hK, hv⟩ := he H enc w n cs' _ h2
    rw [hc] at h1
    obtain ⟨_, hlen, hcell⟩ := World.cells?_some h1
    refine ⟨v, hv, cs', hlen, hK, fun j u hj => ?_⟩
    have hlt : j < cs'.length := (List.getElem?_eq_some_iff.1 hj).1
    rw [← Go.Deep.add_add]
    exact (hcell j (by omega)).trans hj
  by_cases hlen : len = 0
  · subst hlen
    exact ⟨[], ⟨some a, m, rfl, Nat.zero_le _, rfl, Nat.zero_le _, fun hh => absurd hh (Nat.lt_irrefl _)⟩, Nat.zero_le _, by simp⟩
  obtain ⟨v0, _⟩ := each 0 (by omega)
  haveI : Inhabited α := ⟨v0⟩
  obtain ⟨f, hf⟩ := choose_lt each
  refine ⟨(List.range len).map f, ⟨some a, m, by simp, by simpa using hl, ?_⟩, by simpa using Nat.le_trans hl hm, ?_⟩
  · refine ⟨by simp, by simp; unfold maxLen at hm; omega, fun _ => ⟨a, rfl, fun j p hj => ?_⟩⟩
    simp only [List.getElem?_map, Option.map_eq_some_iff] at hj
    obtain ⟨j', hj, rfl⟩ := hj
    obtain ⟨hjl, hj⟩ := List.getElem?_eq_some_iff.1 hj
    simp at hjl hj
    subst hj
    exact (hf j (by omega)).2
  · intro y hy
    simp only [List.mem_map, List.mem_range] at hy
    obtain ⟨i, hi, rfl⟩ := hy
    exact (hf i (by omega)).1

/-- The fields of a struct from cell o on. -/
def OpensL {α : Type} (P : Program) (fs : List Field) (o : Nat) (d : Kd α) (wf : α → Prop) : Prop :=
  ∀ (H : Type) (enc : TypeId × Value → H) (w : World) (fuel : Nat) (cs : List Value) (xs : List (DataW H × List MemPlace)),
    (fs.mapM fun f => DataW.trod enc P w 0 (fun _ => true) true fuel f.type ((cs.drop f.offset).take (P.cellsOf f.type))) = some xs → ∃ v, d.K w v ((cs.drop o).take d.sz) ∧ wf v

theorem opensL_one {α : Type} {d : Kd α} {wf : α → Prop} {f : Field} {o : Nat} (hf : Opens P d f.type wf) (ho : f.offset = o) (hc : P.cellsOf f.type = d.sz) : OpensL P [f] o d wf := by
  intro H enc w fuel cs xs h
  simp only [List.mapM_cons, List.mapM_nil] at h
  obtain ⟨x, hx, _⟩ := Option.bind_eq_some_iff.1 h
  rw [ho, hc] at hx
  exact hf H enc w fuel _ x hx

theorem opensL_cons {α β : Type} {d : Kd α} {d' : Kd β} {wf : α → Prop} {wf' : β → Prop} {f : Field} {fs : List Field} {o : Nat} (hf : Opens P d f.type wf) (ho : f.offset = o) (hc : P.cellsOf f.type = d.sz) (hr : OpensL P fs (o + d.sz) d' wf') :
    OpensL P (f :: fs) o (Kd.pair d d') (fun v => wf v.1 ∧ wf' v.2) := by
  intro H enc w fuel cs xs h
  simp only [List.mapM_cons] at h
  obtain ⟨x, hx, h⟩ := Option.bind_eq_some_iff.1 h
  obtain ⟨ys, hy, _⟩ := Option.bind_eq_some_iff.1 h
  rw [ho, hc] at hx
  obtain ⟨v, hv, w1⟩ := hf H enc w fuel _ x hx
  obtain ⟨v', hv', w2⟩ := hr H enc w fuel _ ys hy
  refine ⟨(v, v'), ⟨_, _, ?_, hv, hv'⟩, w1, w2⟩
  show (cs.drop o).take (d.sz + d'.sz) = _
  rw [List.take_add, List.drop_drop]

theorem opens_struct {α : Type} {d : Kd α} {t : TypeId} {fs : Array Field} {wf : α → Prop} (ht : P.underlying t = some (.struct fs)) (hf : OpensL P fs.toList 0 d wf) (hc : P.cellsOf t = d.sz) : Opens P d t wf := by
  intro H enc w fuel cs x h
  cases fuel with
  | zero => simp [DataW.trod] at h
  | succ n =>
    unfold DataW.trod at h
    rw [ht] at h
    simp only at h
    split at h
    · rename_i hl
      obtain ⟨xs, hxs, _⟩ := Option.map_eq_some_iff.1 h
      obtain ⟨v, hv, hw⟩ := hf H enc w n cs xs hxs
      rw [hc] at hl
      rw [List.drop_zero, ← hl, List.take_length] at hv
      exact ⟨v, hv, hw⟩
    · cases h

/-- A Lean structure by its fields. -/
theorem opens_iso {α β : Type} {d : Kd α} {t : TypeId} {wf : α → Prop} (h : Opens P d t wf) (f : β → α) (g : α → β) (hfg : ∀ a, f (g a) = a) : Opens P (Kd.iso d f) t (fun b => wf (f b)) := by
  intro H enc w fuel cs x hx
  obtain ⟨v, hv, hw⟩ := h H enc w fuel cs x hx
  exact ⟨g v, by show d.K w (f (g v)) cs; rw [hfg]; exact hv, by show wf (f (g v)); rw [hfg]; exact hw⟩
end
end Go.Proofs.Ytaoogghpadifiaa.Reads
