/- How long the slice in a struct's field can be: what its weight allows. -/
import Derived.Deep.Slices
import Derived.SizedLaws
namespace Go.Proofs.Yteknagfpiadaiaa.Reads
open Go.ChangeShapes Go.WideShapes Go.Deep
theorem mapM_at {α β : Type} {f : α → Option β} : ∀ {l : List α} {r : List β}, l.mapM f = some r → ∀ (j : Nat) (a : α), l[j]? = some a → ∃ b, f a = some b ∧ r[j]? = some b
  | [], _, _, j, a, ha => by simp at ha
  | x :: l, r, h, j, a, ha => by
    simp only [List.mapM_cons] at h
    obtain ⟨y, hy, h⟩ := Option.bind_eq_some_iff.1 h
    obtain ⟨ys, hys, h⟩ := Option.bind_eq_some_iff.1 h
    obtain rfl := Option.some.inj h
    cases j with
    | zero =>
      obtain rfl : x = a := by simpa using ha
      exact ⟨y, hy, rfl⟩
    | succ j => exact mapM_at hys j a (by simpa using ha)
theorem sized_struct_slice {P : Program} {H : Type} {enc : TypeId × Value → H} {w : World} {fuel : Nat} {t : TypeId} {fs : Array Field} {cs : List Value} {x : DataW H × List MemPlace} (ht : P.underlying t = some (.struct fs)) (h : DataW.trod enc P w 0 (fun _ => true) true fuel t cs = some x)
    {j : Nat} {f : Field} (hj : fs.toList[j]? = some f) {e : TypeId} (he : P.underlying f.type = some (.slice e)) {A : Option Addr} {len cap : Nat} (hc : (cs.drop f.offset).take (P.cellsOf f.type) = [.slice A len cap]) (hw : ∀ n ∈ x.1.weights P t, n ≤ reachBytes) : len * P.bytesOf e ≤ reachBytes := by
  cases fuel with
  | zero => simp [DataW.trod] at h
  | succ n =>
    unfold DataW.trod at h
    rw [ht] at h
    simp only at h
    split at h
    · obtain ⟨xs, hxs, rfl⟩ := Option.map_eq_some_iff.1 h
      obtain ⟨y, hy, hyj⟩ := mapM_at hxs j f hj
      rw [hc] at hy
      have key : ∀ n ∈ y.1.weights P f.type, n ≤ reachBytes := fun n hn => hw n (by
        simp only [DataW.weights, ht]
        exact DataW.weights_mem_each (j := j) (t := f.type) (d := y.1) (by rw [List.getElem?_map, hj]; rfl) (by rw [List.getElem?_map, hyj]; rfl) n hn)
      rcases open_slice he hy with ⟨h1, _⟩ | ⟨a, len', cap', m, n', D, Pl, h1, hb, hl, hm, hmm, rfl, hx⟩
      · simp at h1
        rw [h1.2.1, Nat.zero_mul]; exact Nat.zero_le _
      · simp at h1
        obtain ⟨_, rfl, rfl⟩ := h1
        have := key _ (show (((List.range len).map D).length + ((List.range (m - len)).map fun j => D (len + j)).length) * P.bytesOf e ∈ _ by simp only [DataW.weights, he]; exact List.mem_cons_self ..)
        refine Nat.le_trans (Nat.mul_le_mul_right _ ?_) this
        simp
    · cases h
end Go.Proofs.Yteknagfpiadaiaa.Reads
