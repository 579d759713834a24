/- What data of a parameter's type says, with how long its slices can be. -/
import Derived.Test.YtaoogghpadifiaaReads
import Derived.SizedLaws
namespace Go.Proofs.Ytaoogghpadifiaa.Reads
open Go.ChangeShapes Go.WideShapes Go.Deep Go.RowKit Go.Proofs.YtaoogghpadifiaaW.PrintWords
def OpensW {α : Type} (P : Program) (d : Kd α) (t : TypeId) (wf : α → Prop) : Prop :=
  ∀ (H : Type) (enc : TypeId × Value → H) (w : World) (fuel : Nat) (cs : List Value) (x : DataW H × List MemPlace),
    DataW.trod enc P w 0 (fun _ => true) true fuel t cs = some x → (∀ n ∈ x.1.weights P t, n ≤ reachBytes) → ∃ v, d.K w v cs ∧ wf v
theorem opensW_of {α : Type} {P : Program} {d : Kd α} {t : TypeId} {wf : α → Prop} (h : Opens P d t wf) : OpensW P d t wf := fun H enc w fuel cs x hx _ => h H enc w fuel cs x hx
theorem weightsAll_mem {H : Type} {P : Program} {e : TypeId} {d : DataW H} {n : Nat} (hn : n ∈ d.weights P e) : ∀ {l : List (DataW H)}, d ∈ l → n ∈ DataW.weightsAll P e l
  | [], h => by cases h
  | a :: l, h => by
    unfold DataW.weightsAll
    rcases List.mem_cons.1 h with rfl | h
    · exact List.mem_append_left _ hn
    · exact List.mem_append_right _ (weightsAll_mem hn h)
theorem opensW_slice {α : Type} {P : Program} {d : Kd α} {t e : TypeId} {wf : α → Prop} {b : Nat} (ht : P.underlying t = some (.slice e)) (he : OpensW P d e wf) (hc : P.cellsOf e = d.sz) (hz : P.bytesOf e = b) :
    OpensW P (Kd.slice e d) t (fun l => l.length * b ≤ reachBytes ∧ ∀ x ∈ l, wf x) := by
  intro H enc w fuel cs x h hw
  rcases open_slice ht h with ⟨rfl, _⟩ | ⟨a, len, cap, m, n, D, Pl, rfl, hb, hl, hm, hmm, rfl, hx⟩
  · exact ⟨[], ⟨none, 0, rfl, Nat.le_refl _, Kd.C_nil _ _⟩, by simp, by simp⟩
  simp only [if_true] at hmm
  subst hmm
  simp only [DataW.weights, ht] at hw
  have hlen0 := hw _ (List.mem_cons_self ..)
  have hwi : ∀ i, i < m → ∀ n ∈ (D i).weights P e, n ≤ reachBytes := fun i hi n hn => by
    by_cases c : i < len
    · exact hw n (List.mem_cons_of_mem _ (List.mem_append_left _ (weightsAll_mem hn (List.mem_map.2 ⟨i, List.mem_range.2 c, rfl⟩))))
    · exact hw n (List.mem_cons_of_mem _ (List.mem_append_right _ (weightsAll_mem hn (List.mem_map.2 ⟨i - len, List.mem_range.2 (by omega), by rw [show len + (i - len) = i by omega]⟩))))
  have each : ∀ i, i < m → ∃ v : α, wf v ∧ ∃ c, c.length = d.sz ∧ d.K w v c ∧ ∀ j u, c[j]? = some u → w.cell? (a.add (i * d.sz + j)) = some u := by
    intro i hi
    obtain ⟨cs', h1, h2⟩ := hx i hi
    obtain ⟨v, hK, hv⟩ := he H enc w n cs' _ h2 (hwi i hi)
    rw [hc] at h1
    obtain ⟨_, hlen, hcell⟩ := World.cells?_some h1
    refine ⟨v, hv, cs', hlen, hK, fun j u hj => ?_⟩
    have hlt : j < cs'.length := (List.getElem?_eq_some_iff.1 hj).1
    rw [← Go.Deep.add_add]
    exact (hcell j (by omega)).trans hj
  have hsz : len * b ≤ reachBytes := by
    refine Nat.le_trans ?_ hlen0
    rw [hz]
    exact Nat.mul_le_mul_right _ (by simp)
  by_cases hlen : len = 0
  · subst hlen
    exact ⟨[], ⟨some a, m, rfl, Nat.zero_le _, rfl, Nat.zero_le _, fun hh => absurd hh (Nat.lt_irrefl _)⟩, by simp, by simp⟩
  obtain ⟨v0, _⟩ := each 0 (by omega)
  haveI : Inhabited α := ⟨v0⟩
  obtain ⟨f, hf⟩ := choose_lt each
  refine ⟨(List.range len).map f, ⟨some a, m, by simp, by simpa using hl, ?_⟩, by simpa using hsz, ?_⟩
  · refine ⟨by simp, by simp; unfold maxLen at hm; omega, fun _ => ⟨a, rfl, fun j p hj => ?_⟩⟩
    simp only [List.getElem?_map, Option.map_eq_some_iff] at hj
    obtain ⟨j', hj, rfl⟩ := hj
    obtain ⟨hjl, hj⟩ := List.getElem?_eq_some_iff.1 hj
    simp at hjl hj
    subst hj
    exact (hf j (by omega)).2
  · intro y hy
    simp only [List.mem_map, List.mem_range] at hy
    obtain ⟨i, hi, rfl⟩ := hy
    exact (hf i (by omega)).1
end Go.Proofs.Ytaoogghpadifiaa.Reads
