/- The search by breadth over the reversed graph: the distances to a vertex. -/
import Derived.Test.YtcljocmblplhcaaSpecB
import Derived.Test.YtcljocmblplhcaaSpecC
namespace Go.Proofs.Ytcljocmblplhcaa.Pl
open Go.RowKit Go.Proofs.Ytcljocmblplhcaa.P Go.Proofs.YtcljocmblplhcaaW.PrintWords Go.Proofs.YtcljocmblplhcaaW.PrintMore

def neg (x : Int) : Bool := decide (x < 0)
section
variable {g h : List (List Int)} {t : Nat}

structure BJ (g : List (List Int)) (t : Nat) (d q : List Int) : Prop where
  len : d.length = g.length
  lab : ∀ x : Nat, x < g.length → rd d (x : Int) = -1 ∨ ∃ k : Nat, rd d (x : Int) = (k : Int) ∧ Wk g k x t ∧ k + d.countP neg ≤ g.length
  root : rd d (t : Int) = 0
  qin : ∀ a ∈ q, ∃ x : Nat, a = (x : Int) ∧ x < g.length ∧ 0 ≤ rd d (x : Int)
  sorted : q.Pairwise (fun a b => rd d a ≤ rd d b)
  top : ∀ y : Nat, y < g.length → 0 ≤ rd d (y : Int) → ∀ a ∈ q, rd d (y : Int) ≤ rd d a + 1
  fin : ∀ y : Nat, y < g.length → 0 ≤ rd d (y : Int) → (y : Int) ∈ q ∨ ∀ x, Ed g x y → 0 ≤ rd d (x : Int) ∧ rd d (x : Int) ≤ rd d (y : Int) + 1

structure BI (g h : List (List Int)) (t v i M : Nat) (d q : List Int) : Prop where
  len : d.length = g.length
  lab : ∀ x : Nat, x < g.length → rd d (x : Int) = -1 ∨ ∃ k : Nat, rd d (x : Int) = (k : Int) ∧ Wk g k x t ∧ k + d.countP neg ≤ g.length
  root : rd d (t : Int) = 0
  vin : v < g.length ∧ 0 ≤ rd d (v : Int)
  qin : ∀ a ∈ q, ∃ x : Nat, a = (x : Int) ∧ x < g.length ∧ 0 ≤ rd d (x : Int)
  sorted : q.Pairwise (fun a b => rd d a ≤ rd d b)
  above : ∀ a ∈ q, rd d (v : Int) ≤ rd d a
  top : ∀ y : Nat, y < g.length → 0 ≤ rd d (y : Int) → rd d (y : Int) ≤ rd d (v : Int) + 1
  fin : ∀ y : Nat, y < g.length → 0 ≤ rd d (y : Int) → (y : Int) ∈ q ∨ y = v ∨ ∀ x, Ed g x y → 0 ≤ rd d (x : Int) ∧ rd d (x : Int) ≤ rd d (y : Int) + 1
  prog : ∀ j, j < i → ∀ x : Nat, x < g.length → rd (h.getD v []) (j : Int) = (x : Int) → 0 ≤ rd d (x : Int)
  size : 2 * d.countP neg + q.length ≤ M

theorem BI.skip {v i M : Nat} {d q : List Int} (b : BI g h t v i M d q) (hs : ∀ x : Nat, x < g.length → rd (h.getD v []) (i : Int) = (x : Int) → 0 ≤ rd d (x : Int)) : BI g h t v (i + 1) M d q :=
  ⟨b.len, b.lab, b.root, b.vin, b.qin, b.sorted, b.above, b.top, b.fin, fun j hj x hx e => by
      rcases Nat.lt_or_ge j i with hji | hji
      · exact b.prog j hji x hx e
      · exact hs x hx (by rw [show i = j by omega]; exact e), b.size⟩

theorem BI.new (hE : ∀ u v, Ed h u v ↔ Ed g v u) (hl : h.length = g.length) {v i M w : Nat} {d q : List Int} (b : BI g h t v i M d q) (hi : i < (h.getD v []).length) (hw : w < g.length) (e : rd (h.getD v []) (i : Int) = (w : Int)) (hn : rd d (w : Int) < 0) :
    BI g h t v (i + 1) M (d.set w (rd d (v : Int) + 1)) (q ++ [(w : Int)]) := by
  obtain ⟨len, lab, root, ⟨vin, v0⟩, qin, sorted, above, top, fin, prog, size⟩ := b
  have hrd : ∀ x : Nat, rd (d.set w (rd d (v : Int) + 1)) (x : Int) = if (x : Int) = (w : Int) then rd d (v : Int) + 1 else rd d (x : Int) := fun x => by
    have := rd_set d (w : Int) (x : Int) (rd d (v : Int) + 1) (by omega) (by omega) (by omega)
    rwa [Int.toNat_natCast] at this
  have hsame : ∀ x : Nat, 0 ≤ rd d (x : Int) → rd (d.set w (rd d (v : Int) + 1)) (x : Int) = rd d (x : Int) := fun x hx => by
    rw [hrd, if_neg (fun e => by rw [e] at hx; omega)]
  have hrw : rd (d.set w (rd d (v : Int) + 1)) (w : Int) = rd d (v : Int) + 1 := by rw [hrd, if_pos rfl]
  have hc : (d.set w (rd d (v : Int) + 1)).countP neg + 1 = d.countP neg := by
    have := cnt_set neg d w (rd d (v : Int) + 1) 0 (by omega)
    rw [← rd_nat, if_pos (by simp [neg]; omega), if_neg (by simp [neg]; omega)] at this
    omega
  have hq : ∀ a ∈ q, rd (d.set w (rd d (v : Int) + 1)) a = rd d a := fun a ha => by
    obtain ⟨x, rfl, _, hx⟩ := qin a ha
    exact hsame x hx
  have hev : Ed g w v := (hE v w).1 ⟨by omega, by omega, by rw [← e]; exact rd_mem (by omega) (by omega)⟩
  refine ⟨by rw [List.length_set]; exact len, fun x hx => ?_, ?_, ⟨vin, ?_⟩, fun a ha => ?_, ?_, fun a ha => ?_, fun y hy h0 => ?_, fun y hy h0 => ?_, fun j hj x hx ex => ?_, ?_⟩
  · by_cases ex : x = w
    · subst ex
      rcases lab v vin with h | ⟨k, h1, h2, h3⟩
      · omega
      · exact .inr ⟨k + 1, by rw [hrw, h1]; rfl, ⟨v, hev, h2⟩, by omega⟩
    · rw [hrd, if_neg (by omega)]
      exact (lab x hx).imp id (fun ⟨k, h1, h2, h3⟩ => ⟨k, h1, h2, by omega⟩)
  · rw [hsame t (by omega)]; exact root
  · rw [hsame v v0]; exact v0
  · rcases List.mem_append.1 ha with ha | ha
    · obtain ⟨x, rfl, h1, h2⟩ := qin a ha
      exact ⟨x, rfl, h1, by rw [hsame x h2]; exact h2⟩
    · simp at ha
      subst ha
      exact ⟨w, rfl, hw, by rw [hrw]; omega⟩
  · refine List.pairwise_append.2 ⟨?_, List.pairwise_singleton _ _, fun a ha c hc' => ?_⟩
    · refine List.Pairwise.imp_of_mem (fun {a c} ha hc' hac => ?_) sorted
      rw [hq a ha, hq c hc']; exact hac
    · simp at hc'
      subst hc'
      rw [hq a ha, hrw]
      obtain ⟨x, rfl, h1, h2⟩ := qin a ha
      exact top x h1 h2
  · rw [hsame v v0]
    rcases List.mem_append.1 ha with ha | ha
    · rw [hq a ha]; exact above a ha
    · simp at ha
      subst ha
      rw [hrw]; omega
  · rw [hsame v v0]
    by_cases ey : y = w
    · subst ey; rw [hrw]; omega
    · rw [hrd, if_neg (by omega)] at h0 ⊢
      exact top y hy h0
  · by_cases ey : y = w
    · subst ey
      exact .inl (by simp)
    · have h1 := h0
      rw [hrd, if_neg (by omega)] at h1
      rcases fin y hy h1 with h2 | h2 | h2
      · exact .inl (List.mem_append.2 (.inl h2))
      · exact .inr (.inl h2)
      · refine .inr (.inr fun x hx => ?_)
        have h3 := h2 x hx
        rw [hsame x h3.1, hsame y h1]
        exact h3
  · by_cases ex2 : x = w
    · subst ex2; rw [hrw]; omega
    · by_cases ej : j = i
      · subst ej; omega
      · have := prog j (by omega) x hx ex
        rw [hsame x this]; exact this
  · rw [List.length_append]
    simp
    omega

theorem bfs_list (hf : Few h) (hE : ∀ u v, Ed h u v ↔ Ed g v u) (hl : h.length = g.length) {v M : Nat} (hM : M ≤ 100) (i : Nat) (s : List Int × List Int) (hi : i < (h.getD v []).length) (b : BI g h t v i M s.1 s.2) :
    ∃ s' : List Int × List Int, BI g h t v (i + 1) M s'.1 s'.2 ∧ ∀ r, Ev (fun k => digraph_distances.l2 k h s'.1 s'.2 (v : Int) (h.getD v []) ((h.getD v []).length : Int) ((i + 1 : Nat) : Int)) r → Ev (fun k => digraph_distances.l2 k h s.1 s.2 (v : Int) (h.getD v []) ((h.getD v []).length : Int) (i : Int)) r := by
  have h12 := hf.1
  have h20 := hf.2 v (by have := b.vin.1; omega)
  obtain ⟨d, q⟩ := s
  obtain ⟨w, hw⟩ : ∃ w, w = rd (h.getD v []) (i : Int) := ⟨_, rfl⟩
  have hlen : d.length = g.length := b.len
  have hvin : v < g.length ∧ 0 ≤ rd d (v : Int) := b.vin
  have hs : 2 * d.countP neg + q.length ≤ M := b.size
  have hlab : rd d (v : Int) = -1 ∨ ∃ k : Nat, rd d (v : Int) = (k : Int) ∧ Wk g k v t ∧ k + d.countP neg ≤ g.length := b.lab v hvin.1
  by_cases c1 : 0 ≤ w ∧ w < (h.length : Int)
  · obtain ⟨w0, w1⟩ := c1
    have hin : digraph_inside.f h w = some true := by unfold digraph_inside.f; rw [if_pos w0, decide_eq_true w1]
    obtain ⟨x, rfl⟩ : ∃ x : Nat, w = (x : Int) := ⟨w.toNat, by omega⟩
    by_cases c2 : rd d (x : Int) < 0
    · have hb := BI.new hE hl b hi (by omega) hw.symm c2
      refine ⟨(d.set x (rd d (v : Int) + 1), q ++ [(x : Int)]), hb, fun r h => Ev.step (fun k => ?_) h⟩
      have hv1 : rd d (v : Int) ≤ 1000 := by
        rcases hlab with h | ⟨k, h1, _, h2⟩ <;> omega
      simp only [digraph_distances.l2]
      rw [if_pos (by omega), if_pos (by omega), if_pos (by omega), ← hw, hin]
      simp only [Option.bind_some]
      rw [if_pos trivial, if_pos w0, if_pos (by omega), if_pos c2, if_pos (by omega), if_pos (by omega), if_pos (by omega), wrap_ok (by omega) (by omega), wrap_up hi (by omega), Int.toNat_natCast]
    · refine ⟨(d, q), b.skip (fun y hy e => by
        have hy2 : y = x := by omega
        rw [hy2]
        show 0 ≤ rd d (x : Int)
        omega), fun r h => Ev.step (fun k => ?_) h⟩
      simp only [digraph_distances.l2]
      rw [if_pos (by omega), if_pos (by omega), if_pos (by omega), ← hw, hin]
      simp only [Option.bind_some]
      rw [if_pos trivial, if_pos w0, if_pos (by omega), if_neg c2, wrap_up hi (by omega)]
  · have hin : digraph_inside.f h w = some false := by
      unfold digraph_inside.f
      by_cases h0 : w ≥ 0
      · rw [if_pos h0, decide_eq_false (fun h1 => c1 ⟨h0, h1⟩)]
      · rw [if_neg h0]
    refine ⟨(d, q), b.skip (fun y hy e => absurd (by omega) c1), fun r h => Ev.step (fun k => ?_) h⟩
    simp only [digraph_distances.l2]
    rw [if_pos (by omega), if_pos (by omega), if_pos (by omega), ← hw, hin]
    simp only [Option.bind_some]
    rw [if_neg (by decide), wrap_up hi (by omega)]

theorem bfs_end {d : List Int} (b : BJ g t d []) : IsDist g t d := by
  have hw : ∀ (k v : Nat), Wk g k v t → 0 ≤ rd d (v : Int) ∧ rd d (v : Int) ≤ k := by
    intro k
    induction k with
    | zero => rintro v ⟨rfl, _⟩; rw [b.root]; omega
    | succ k ih =>
      rintro v ⟨w, h1, h2⟩
      obtain ⟨i1, i2⟩ := ih w h2
      rcases b.fin w h1.2.1 i1 with h | h
      · cases h
      · have := h v h1
        omega
  refine ⟨b.len, fun v hv => ?_⟩
  rcases b.lab v hv with h | ⟨k, h1, h2, _⟩
  · exact .inl ⟨h, fun ⟨k, hk⟩ => by have := hw k v hk; omega⟩
  · exact .inr ⟨k, h1, h2, fun j hj hk => by have := hw j v hk; omega⟩

theorem bfs_go (hf : Few h) (hE : ∀ u v, Ed h u v ↔ Ed g v u) (hl : h.length = g.length) : ∀ (M : Nat) (d q : List Int), BJ g t d q → 2 * d.countP neg + q.length = M → M ≤ 100 → ∃ d', Ev (fun k => digraph_distances.l1 k h d q) d' ∧ IsDist g t d' := by
  intro M
  induction M using Nat.strongRecOn with
  | _ M ih =>
  intro d q b hM hM2
  have h12 := hf.1
  cases q with
  | nil => exact ⟨d, Ev.one (fun k => by simp only [digraph_distances.l1]; rw [if_neg (by simp)]), bfs_end b⟩
  | cons a q =>
    obtain ⟨v, rfl, hv, v0⟩ := b.qin a (by simp)
    have hcons : ((v : Int) :: q).length = q.length + 1 := rfl
    obtain ⟨s', hb, hk⟩ := Ev_for (l := fun k (s : List Int × List Int) i => digraph_distances.l2 k h s.1 s.2 (v : Int) (h.getD v []) ((h.getD v []).length : Int) i) (n := (h.getD v []).length) (inv := fun i s => BI g h t v i (M - 1) s.1 s.2)
      (fun i s hi b => bfs_list (M := M - 1) hf hE hl (by omega) i s hi b) (Nat.zero_le _) (s := (d, q))
      ⟨b.len, b.lab, b.root, ⟨hv, v0⟩, fun a ha => b.qin a (List.mem_cons_of_mem _ ha), (List.pairwise_cons.1 b.sorted).2, (List.pairwise_cons.1 b.sorted).1, fun y hy h0 => b.top y hy h0 _ (by simp),
        fun y hy h0 => (b.fin y hy h0).elim (fun h => (List.mem_cons.1 h).elim (fun h => .inr (.inl (by omega))) .inl) (fun h => .inr (.inr h)), fun j hj => absurd hj (Nat.not_lt_zero _), by rw [hcons] at hM; show 2 * d.countP neg + q.length ≤ M - 1; omega⟩
    obtain ⟨d2, q2⟩ := s'
    have hb2 : BJ g t d2 q2 := ⟨hb.len, hb.lab, hb.root, hb.qin, hb.sorted, fun y hy h0 a ha => by
      have h1 : rd d2 (y : Int) ≤ rd d2 (v : Int) + 1 := hb.top y hy h0
      have h2 : rd d2 (v : Int) ≤ rd d2 a := hb.above a ha
      omega, fun y hy h0 => by
      rcases hb.fin y hy h0 with h | h | h
      · exact .inl h
      · subst h
        refine .inr fun x hx => ?_
        obtain ⟨h1, h2, h3⟩ := (hE y x).2 hx
        obtain ⟨j, hj, e⟩ := mem_rd h3
        have := hb.prog j hj x hx.1 e
        exact ⟨this, hb.top x hx.1 this⟩
      · exact .inr h⟩
    have hs2 := hb.size
    have hs3 : 2 * d2.countP neg + q2.length ≤ M - 1 := hs2
    obtain ⟨d', hd', hI⟩ := ih (2 * d2.countP neg + q2.length) (by rw [hcons] at hM; omega) d2 q2 hb2 rfl (by omega)
    refine ⟨d', ?_, hI⟩
    refine Ev.step (f := fun k => digraph_distances.l2 k h d q (v : Int) (h.getD v []) ((h.getD v []).length : Int) 0) (fun k => ?_) (hk d' (Ev.step (fun k => ?_) hd'))
    · simp only [digraph_distances.l1]
      have e0 : rd ((v : Int) :: q) 0 = (v : Int) := by simp [rd]
      rw [if_pos (by rw [hcons]; omega), if_pos (by rw [hcons]; omega), if_pos (by rw [hcons]; omega), e0, if_pos (by omega), if_pos (by omega), rdL]
      rfl
    · simp only [digraph_distances.l2]
      rw [if_neg (by omega)]

theorem dist_ev (hf : Few h) (hE : ∀ u v, Ed h u v ↔ Ed g v u) (hl : h.length = g.length) (ht : t < g.length) : ∃ d, Ev (fun k => digraph_distances.f k h (t : Int)) d ∧ IsDist g t d := by
  have h12 := hf.1
  obtain ⟨d0, ⟨hl0, h0⟩, hk0⟩ := Ev_for (l := fun k (d : List Int) i => digraph_distances.l0 k h (t : Int) d (g.length : Int) i) (n := g.length) (inv := fun i d => d.length = g.length ∧ ∀ x : Nat, x < i → rd d (x : Int) = -1)
    (fun i d hi ⟨hl', hx⟩ => ⟨d.set i (-1), ⟨by rw [List.length_set]; exact hl', fun x hxi => by
      have e := rd_set d (i : Int) (x : Int) (-1) (by omega) (by omega) (by omega)
      rw [Int.toNat_natCast] at e
      rw [e]
      by_cases ex : (x : Int) = (i : Int)
      · rw [if_pos ex]
      · rw [if_neg ex]; exact hx x (by omega)⟩, fun r h => Ev.step (fun k => by
        simp only [digraph_distances.l0]
        rw [if_pos (by omega), if_pos (by omega), if_pos (by omega), wrap_up hi (by omega), Int.toNat_natCast]) h⟩) (Nat.zero_le _) (s := List.replicate g.length 0) ⟨by simp, fun x hx => absurd hx (Nat.not_lt_zero _)⟩
  have hc0 : d0.countP neg ≤ g.length := by rw [← hl0]; exact List.countP_le_length
  have hrd : ∀ x : Nat, rd (d0.set t 0) (x : Int) = if (x : Int) = (t : Int) then 0 else rd d0 (x : Int) := fun x => by
    have := rd_set d0 (t : Int) (x : Int) 0 (by omega) (by omega) (by omega)
    rwa [Int.toNat_natCast] at this
  have hc : (d0.set t 0).countP neg + 1 = d0.countP neg := by
    have := cnt_set neg d0 t 0 0 (by omega)
    rw [← rd_nat, h0 t ht, if_pos (by simp [neg]), if_neg (by simp [neg])] at this
    omega
  have hneg : ∀ x : Nat, x < g.length → 0 ≤ rd (d0.set t 0) (x : Int) → x = t := fun x hx h => by
    rw [hrd] at h
    by_cases ex : (x : Int) = (t : Int)
    · omega
    · rw [if_neg ex, h0 x hx] at h
      omega
  have b : BJ g t (d0.set t 0) [(t : Int)] := ⟨by rw [List.length_set]; exact hl0, fun x hx => by
      rw [hrd]
      by_cases ex : (x : Int) = (t : Int)
      · rw [if_pos ex]
        exact .inr ⟨0, rfl, ⟨by omega, by omega⟩, by omega⟩
      · rw [if_neg ex]; exact .inl (h0 x hx), by rw [hrd, if_pos rfl], fun a ha => by simp at ha; subst ha; exact ⟨t, rfl, ht, by rw [hrd, if_pos rfl]; omega⟩, List.pairwise_singleton _ _, fun y hy hy0 a ha => by
      simp at ha
      subst ha
      rw [hneg y hy hy0]
      omega, fun y hy hy0 => .inl (by rw [hneg y hy hy0]; simp)⟩
  obtain ⟨d, hd, hI⟩ := bfs_go hf hE hl _ _ _ b rfl (by simp; omega)
  refine ⟨d, ?_, hI⟩
  refine Ev.congr (f := fun k => digraph_distances.l0 k h (t : Int) (List.replicate g.length 0) (g.length : Int) 0) (fun k => ?_) (hk0 d (Ev.step (fun k => ?_) hd))
  · unfold digraph_distances.f
    rw [if_pos (by omega), if_pos (by omega), Int.toNat_natCast, hl]
    simp only [Option.bind_some]
    rw [List.length_replicate]
  · simp only [digraph_distances.l0]
    rw [if_neg (by omega), if_pos (by omega), if_pos (by omega), Int.toNat_natCast]
end
end Go.Proofs.Ytcljocmblplhcaa.Pl
