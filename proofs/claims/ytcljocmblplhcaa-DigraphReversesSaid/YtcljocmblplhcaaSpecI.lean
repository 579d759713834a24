/- Strongly connected components: the depth-first search with a stack, and its result: of each vertex the least one in its component. -/
import Derived.Test.YtcljocmblplhcaaPx2
import Derived.Test.YtcljocmblplhcaaGraph
namespace Go.Proofs.Ytcljocmblplhcaa.Pl
open Go.RowKit Go.Proofs.Ytcljocmblplhcaa.P Go.Proofs.YtcljocmblplhcaaW.PrintWords Go.Proofs.YtcljocmblplhcaaW.PrintMore

def up (l : List Nat) : List Int := l.map (fun x : Nat => (x : Int))
theorem up_app (a b : List Nat) : up (a ++ b) = up a ++ up b := by unfold up; exact List.map_append
theorem up_len (a : List Nat) : (up a).length = a.length := by unfold up; simp
theorem up_rd (a : List Nat) (i : Nat) (hi : i < a.length) : rd (up a) (i : Int) = ((a[i] : Nat) : Int) := by
  rw [rd_nat, List.getD_eq_getElem?_getD, List.getElem?_eq_getElem (by rw [up_len]; exact hi)]
  unfold up
  simp
theorem count_set {α : Type} (p : α → Bool) : ∀ (l : List α) (i : Nat) (x d : α), i < l.length → (l.set i x).countP p + (if p (l.getD i d) then 1 else 0) = l.countP p + (if p x then 1 else 0)
  | [], i, x, d, h => absurd h (by simp)
  | a :: l, 0, x, d, h => by simp [List.countP_cons]; omega
  | a :: l, i + 1, x, d, h => by
    have := count_set p l i x d (by simpa using h)
    simp only [List.set_cons_succ, List.countP_cons, List.getD_cons_succ]
    omega
/-- The least vertex of u's component. -/
def IsL (g : List (List Int)) (u : Nat) (x : Int) : Prop := ∃ m : Nat, x = (m : Int) ∧ R g u m ∧ R g m u ∧ ∀ w, R g u w → R g w u → m ≤ w
theorem IsL.uniq {g : List (List Int)} {u : Nat} {x y : Int} (h : IsL g u x) (k : IsL g u y) : x = y := by
  obtain ⟨a, rfl, h1, h2, h3⟩ := h
  obtain ⟨b, rfl, k1, k2, k3⟩ := k
  have := h3 b k1 k2
  have := k3 a h1 h2
  omega

section
variable {g : List (List Int)} {s s' : TS} {st gray : List Nat} {u v w x y : Nat}
def ix (s : TS) (v : Nat) : Int := rd s.index (v : Int)
def lw (s : TS) (v : Nat) : Int := rd s.low (v : Int)
def ou (s : TS) (v : Nat) : Int := rd s.out (v : Int)
def Bl (s : TS) (v : Nat) : Prop := ix s v ≠ 0 ∧ ou s v ≠ -1
def z0 (x : Int) : Bool := decide (x = 0)

structure TI (g : List (List Int)) (s : TS) (st gray : List Nat) : Prop where
  li : s.index.length = g.length
  ll : s.low.length = g.length
  lo : s.out.length = g.length
  stk : s.stack = up st
  stn : ∀ v, v ∈ st → v < g.length
  srt : st.Pairwise (fun a b => ix s a < ix s b)
  on : ∀ v, v < g.length → (v ∈ st ↔ ix s v ≠ 0 ∧ ou s v = -1)
  nx : s.next + (s.index.countP z0 : Int) = (g.length : Int)
  n0 : 0 ≤ s.next
  pos : ∀ v, v < g.length → 0 ≤ ix s v ∧ ix s v ≤ s.next
  gr : ∀ x, x ∈ gray → x ∈ st
  nw : ∀ u w, Ed g u w → ix s u ≠ 0 → u ∉ gray → ix s w ≠ 0
  bb : ∀ u w, Ed g u w → Bl s u → Bl s w
  lst : ∀ u, u < g.length → Bl s u → IsL g u (ou s u)
  down : ∀ x, x ∈ gray → ∀ y, y ∈ st → ix s x ≤ ix s y → R g x y
  back : ∀ y, y ∈ st → ∃ x, x ∈ gray ∧ ix s x ≤ ix s y ∧ R g y x

structure Fr (g : List (List Int)) (s s' : TS) : Prop where
  nx : s.next ≤ s'.next
  ix : ∀ w, w < g.length → ix s w ≠ 0 → ix s' w = ix s w
  lw : ∀ w, w < g.length → Pl.ix s w ≠ 0 → lw s' w = lw s w
  ou : ∀ w, w < g.length → Pl.ix s w ≠ 0 → ou s' w = ou s w
theorem Fr.trans {s1 : TS} (h : Fr g s s1) (k : Fr g s1 s') : Fr g s s' := ⟨Int.le_trans h.nx k.nx, fun w hw h0 => by rw [k.ix w hw (by rw [h.ix w hw h0]; exact h0), h.ix w hw h0], fun w hw h0 => by rw [k.lw w hw (by rw [h.ix w hw h0]; exact h0), h.lw w hw h0], fun w hw h0 => by rw [k.ou w hw (by rw [h.ix w hw h0]; exact h0), h.ou w hw h0]⟩

/-- What a search leaves behind. -/
structure Post (g : List (List Int)) (s : TS) (st gray : List Nat) (v : Nat) (s' : TS) (ext : List Nat) : Prop where
  inv : TI g s' (st ++ ext) gray
  fr : Fr g s s'
  seen : ix s' v ≠ 0
  how : (ext = [] ∧ Bl s' v ∧ s.next < lw s' v) ∨ (v ∈ ext ∧ 1 ≤ lw s' v ∧ (∃ y, y ∈ st ++ ext ∧ ix s' y = lw s' v ∧ R g v y) ∧ ∀ b, b ∈ ext → ∀ y, y ∈ st → Ed g b y → lw s' v ≤ ix s y)

/-- In the loop of v's search, at place i of its list. -/
structure LI (g : List (List Int)) (s0 : TS) (st gray : List Nat) (v : Nat) (i : Nat) (s : TS) (ext : List Nat) : Prop where
  inv : TI g s (st ++ v :: ext) (v :: gray)
  fr : Fr g s0 s
  iv : ix s v = s0.next + 1
  lv : 1 ≤ lw s v
  lv2 : lw s v ≤ ix s v
  wit : ∃ y, y ∈ st ++ v :: ext ∧ ix s y = lw s v ∧ R g v y
  out : ∀ b, b ∈ ext → ∀ y, y ∈ st → Ed g b y → lw s v ≤ ix s y
  did : ∀ j : Nat, j < i → ∀ y : Nat, rd (g.getD v []) (j : Int) = (y : Int) → y < g.length → ix s y ≠ 0 ∧ (y ∈ st → lw s v ≤ ix s y)

theorem TI.len (h : TI g s st gray) : st.length ≤ g.length := nodup_le g.length st (h.srt.imp (fun h e => by rw [e] at h; exact absurd h (Int.lt_irrefl _))) h.stn

/-! ### the end of a search -/
theorem down_ok (l : List Int) (v : Int) (a : Nat) (ha : rd l (a : Int) = v) : ∀ d : Nat, (∀ j : Nat, a < j → j ≤ a + d → rd l (j : Int) ≠ v) → downT l v (a + d) = some a
  | 0, _ => by
    cases a with
    | zero => simp only [downT]; rw [if_pos (by simpa using ha)]
    | succ a => simp only [downT]; rw [if_pos ha]
  | d + 1, h => by
    rw [show a + (d + 1) = (a + d) + 1 by omega]
    unfold downT
    rw [if_neg (h (a + d + 1) (by omega) (by omega)), down_ok l v a ha d (fun j h1 h2 => h j h1 (by omega))]
theorem assign_ok (f : Int) : ∀ (C : List Nat) (o : List Int) (n : Nat), o.length = n → (∀ c, c ∈ C → c < n) → ∃ o', assignT o (up C) f = some o' ∧ o'.length = n ∧ ∀ w : Nat, rd o' (w : Int) = if w ∈ C then f else rd o (w : Int)
  | [], o, n, hl, _ => ⟨o, rfl, hl, fun w => by simp⟩
  | c :: C, o, n, hl, h => by
    have hc := h c (List.mem_cons_self ..)
    obtain ⟨o', h1, h2, h3⟩ := assign_ok f C (o.set c f) n (by rw [List.length_set]; exact hl) (fun c hc => h c (List.mem_cons_of_mem _ hc))
    refine ⟨o', ?_, h2, fun w => ?_⟩
    · show (if 0 ≤ (c : Int) then (if (c : Int) < (o.length : Int) then assignT (o.set (c : Int).toNat f) (up C) f else none) else none) = some o'
      rw [if_pos (by omega), if_pos (by omega), Int.toNat_natCast, h1]
    · rw [h3 w]
      by_cases e : w ∈ C
      · rw [if_pos e, if_pos (List.mem_cons_of_mem _ e)]
      · rw [if_neg e]
        have := rd_set o (c : Int) (w : Int) f (by omega) (by omega) (by omega)
        rw [Int.toNat_natCast] at this
        rw [this]
        by_cases e2 : w = c
        · rw [if_pos (by omega), if_pos (by rw [e2]; exact List.mem_cons_self ..)]
        · rw [if_neg (by omega), if_neg (fun hm => (List.mem_cons.1 hm).elim e2 e)]
theorem least_ok : ∀ (C : List Nat) (a : Nat), ∃ m : Nat, (up C).foldl mn (a : Int) = (m : Int) ∧ (m = a ∨ m ∈ C) ∧ m ≤ a ∧ ∀ c, c ∈ C → m ≤ c
  | [], a => ⟨a, rfl, .inl rfl, Nat.le_refl _, fun c h => by cases h⟩
  | c :: C, a => by
    have hf : (up (c :: C)).foldl mn (a : Int) = (up C).foldl mn (((if c < a then c else a : Nat) : Nat) : Int) := by
      show (up C).foldl mn (mn (a : Int) (c : Int)) = _
      congr 1
      unfold mn
      by_cases e : c < a
      · rw [if_pos e, if_pos (by omega)]
      · rw [if_neg e, if_neg (by omega)]
    obtain ⟨m, h1, h2, h3, h4⟩ := least_ok C (if c < a then c else a)
    refine ⟨m, hf.trans h1, ?_, ?_, fun x hx => ?_⟩
    · rcases h2 with h2 | h2
      · by_cases e : c < a
        · rw [if_pos e] at h2; exact .inr (by rw [h2]; exact List.mem_cons_self ..)
        · rw [if_neg e] at h2; exact .inl h2
      · exact .inr (List.mem_cons_of_mem _ h2)
    · split at h3 <;> omega
    · rcases List.mem_cons.1 hx with rfl | hx
      · split at h3 <;> omega
      · exact h4 x hx

theorem LI.fin {s0 : TS} {ext : List Nat} (h : LI g s0 st gray v (g.getD v []).length s ext) (hv : v < g.length) (h0 : TI g s0 st gray) (hw : ix s0 v = 0) :
    ∃ s' e', (if rd s.low (v : Int) = rd s.index (v : Int) then finishT (v : Int) s else some s) = some s' ∧ Post g s0 st gray v s' e' := by
  obtain ⟨I, fr, iv, lv, lv2, wit, hout, did⟩ := h
  have hvst : v ∉ st := fun hm => ((h0.on v hv).1 hm).1 hw
  have succ : ∀ y, Ed g v y → ix s y ≠ 0 ∧ (y ∈ st → lw s v ≤ ix s y) := fun y hy => by
    obtain ⟨j, hj, e⟩ := mem_rd hy.2.2
    exact did j hj y e hy.2.1
  obtain ⟨p1, p2, p3⟩ := List.pairwise_append.1 I.srt
  obtain ⟨p4, p5⟩ := List.pairwise_cons.1 p2
  have before : ∀ y, y ∈ st → ix s y < ix s v := fun y hy => p3 y hy v (List.mem_cons_self ..)
  have after : ∀ b, b ∈ v :: ext → ix s v ≤ ix s b := fun b hb => by
    rcases List.mem_cons.1 hb with rfl | hb
    · exact Int.le_refl _
    · exact Int.le_of_lt (p4 b hb)
  have grst : ∀ x, x ∈ gray → x ∈ st := fun x hx => h0.gr x hx
  have ext0 : ∀ b, b ∈ ext → b ∉ v :: gray := fun b hb hm => by
    rcases List.mem_cons.1 hm with rfl | hm
    · exact absurd (p4 b hb) (Int.lt_irrefl _)
    · have := before b (grst b hm)
      have := p4 b hb
      omega
  by_cases c : rd s.low (v : Int) = rd s.index (v : Int)
  · have c' : lw s v = ix s v := c
    rw [if_pos c]
    -- the component is closed but for what is done
    have closed : ∀ b w, b ∈ v :: ext → Ed g b w → Bl s w ∨ w ∈ v :: ext := fun b w hb he => by
      have hwn : ix s w ≠ 0 ∧ (w ∈ st → lw s v ≤ ix s w) := by
        rcases List.mem_cons.1 hb with rfl | hb
        · exact succ w he
        · have hbs : b ∈ st ++ v :: ext := List.mem_append.2 (.inr (List.mem_cons_of_mem _ hb))
          exact ⟨I.nw b w he ((I.on b he.1).1 hbs).1 (ext0 b hb), fun hws => hout b hb w hws he⟩
      by_cases e : ou s w = -1
      · have hm := (I.on w he.2.1).2 ⟨hwn.1, e⟩
        rcases List.mem_append.1 hm with hm | hm
        · have := hwn.2 hm
          have := before w hm
          omega
        · exact .inr hm
      · exact .inl ⟨hwn.1, e⟩
    have reach : ∀ b w, b ∈ v :: ext → R g b w → Bl s w ∨ w ∈ v :: ext := fun b w hb hr => R.closed (p := fun w => Bl s w ∨ w ∈ v :: ext) (fun a c ha he => ha.elim (fun ha => .inl (I.bb a c he ha)) (fun ha => closed a c ha he)) hr (.inr hb)
    have inst : ∀ b, b ∈ v :: ext → b ∈ st ++ v :: ext := fun b hb => List.mem_append.2 (.inr hb)
    have toC : ∀ b, b ∈ v :: ext → R g v b := fun b hb => I.down v (List.mem_cons_self ..) b (inst b hb) (after b hb)
    have notB : ∀ b, b ∈ st ++ v :: ext → ¬ Bl s b := fun b hb h => h.2 ((I.on b (I.stn b hb)).1 hb).2
    have fromC : ∀ b, b ∈ v :: ext → R g b v := fun b hb => by
      obtain ⟨x, hx, _, hr⟩ := I.back b (inst b hb)
      rcases List.mem_cons.1 hx with rfl | hx
      · exact hr
      · rcases reach b x hb hr with h | h
        · exact absurd h (notB x (List.mem_append.2 (.inl (grst x hx))))
        · have := before x (grst x hx)
          have := after x h
          omega
    have scc : ∀ b w, b ∈ v :: ext → R g b w → R g w b → w ∈ v :: ext := fun b w hb h1 h2 => by
      rcases reach b w hb h1 with h | h
      · exact absurd (R.closed (p := fun w => Bl s w) (fun a c ha he => I.bb a c he ha) h2 h) (notB b (inst b hb))
      · exact h
    obtain ⟨m, m1, m2, m3, m4⟩ := least_ok (v :: ext) v
    have mC : m ∈ v :: ext := m2.elim (fun h => by rw [h]; exact List.mem_cons_self ..) id
    obtain ⟨o, o1, o2, o3⟩ := assign_ok (m : Int) (v :: ext) s.out g.length I.lo (fun c hc => I.stn c (inst c hc))
    have hlen : s.stack.length = st.length + (ext.length + 1) := by rw [I.stk, up_len]; simp
    have hdrop : s.stack.drop st.length = up (v :: ext) := by rw [I.stk, up_app, ← up_len st, List.drop_left]
    have htake : s.stack.take st.length = up st := by rw [I.stk, up_app, ← up_len st, List.take_left]
    have hdown : downT s.stack (v : Int) (s.stack.length - 1) = some st.length := by
      rw [show s.stack.length - 1 = st.length + ext.length by omega, I.stk]
      refine down_ok _ _ _ ?_ _ (fun j j1 j2 => ?_)
      · rw [up_rd _ _ (by simp)]
        simp
      · have hj : j < (st ++ v :: ext).length := by simp; omega
        rw [up_rd _ _ hj]
        have : (st ++ v :: ext)[j] ∈ ext := by
          rw [List.getElem_append_right (by omega), List.getElem_cons]
          rw [dif_neg (by omega)]
          exact List.getElem_mem _
        intro e
        have e2 : (st ++ v :: ext)[j] = v := by omega
        rw [e2] at this
        exact ext0 v this (List.mem_cons_self ..)
    refine ⟨{ s with out := o, stack := up st }, [], ?_, ?_⟩
    · unfold finishT
      rw [if_pos (by omega), hdown]
      simp only [Option.bind_some]
      rw [hdrop, htake, m1, o1]
      rfl
    · have eix : ∀ w, ix { s with out := o, stack := up st } w = ix s w := fun w => rfl
      have elw : ∀ w, lw { s with out := o, stack := up st } w = lw s w := fun w => rfl
      have eou : ∀ w, ou { s with out := o, stack := up st } w = if w ∈ v :: ext then (m : Int) else ou s w := fun w => o3 w
      have stC : ∀ w, w ∈ st → w ∉ v :: ext := fun w hw hm => by
        have := before w hw
        have := after w hm
        omega
      have bl : ∀ w, w < g.length → (Bl { s with out := o, stack := up st } w ↔ Bl s w ∨ w ∈ v :: ext) := fun w hw => by
        unfold Bl
        rw [eix, eou]
        by_cases e : w ∈ v :: ext
        · rw [if_pos e]
          exact ⟨fun _ => .inr e, fun _ => ⟨((I.on w hw).1 (inst w e)).1, by omega⟩⟩
        · rw [if_neg e]
          exact ⟨.inl, fun h => h.elim id (fun h => absurd h e)⟩
      refine ⟨⟨I.li, I.ll, o2, by rw [List.append_nil], fun w hw => by rw [List.append_nil] at hw; exact h0.stn w hw, by rw [List.append_nil]; exact p1, fun w hw => ?_, I.nx, I.n0, I.pos, fun x hx => by rw [List.append_nil]; exact grst x hx, fun a b he ha hag => ?_, fun a b he ha => ?_, fun a ha hb => ?_, fun x hx y hy hle => ?_, fun y hy => ?_⟩, ⟨fr.nx, fr.ix, fr.lw, fun w hw h1 => ?_⟩, ?_, .inl ⟨rfl, ?_, ?_⟩⟩
      · rw [List.append_nil, eix, eou]
        constructor
        · intro hm
          rw [if_neg (stC w hm)]
          exact (I.on w hw).1 (List.mem_append.2 (.inl hm))
        · intro ⟨h1, h2⟩
          by_cases e : w ∈ v :: ext
          · rw [if_pos e] at h2; omega
          · rw [if_neg e] at h2
            exact (List.mem_append.1 ((I.on w hw).2 ⟨h1, h2⟩)).elim id (fun h => absurd h e)
      · rw [eix] at ha ⊢
        by_cases e : a = v
        · subst e; exact (succ b he).1
        · exact I.nw a b he ha (fun hm => (List.mem_cons.1 hm).elim e hag)
      · rw [bl a he.1] at ha
        rw [bl b he.2.1]
        exact ha.elim (fun ha => .inl (I.bb a b he ha)) (fun ha => closed a b ha he)
      · rw [eou]
        by_cases e : a ∈ v :: ext
        · rw [if_pos e]
          exact ⟨m, rfl, (fromC a e).trans (toC m mC), (fromC m mC).trans (toC a e), fun w h1 h2 => (List.mem_cons.1 (scc a w e h1 h2)).elim (fun h => by rw [h]; exact m3) (fun h => m4 w (List.mem_cons_of_mem _ h))⟩
        · rw [if_neg e]
          exact I.lst a ha (((bl a ha).1 hb).elim id (fun h => absurd h e))
      · rw [List.append_nil] at hy
        exact I.down x (List.mem_cons_of_mem _ hx) y (List.mem_append.2 (.inl hy)) hle
      · rw [List.append_nil] at hy
        obtain ⟨x, hx, h1, h2⟩ := I.back y (List.mem_append.2 (.inl hy))
        rcases List.mem_cons.1 hx with rfl | hx
        · have := before y hy
          omega
        · exact ⟨x, hx, h1, h2⟩
      · rw [eou, if_neg (fun hm => ?_)]
        · exact fr.ou w hw h1
        · by_cases hws : w ∈ st
          · exact stC w hws hm
          · have h3 := fr.ou w hw h1
            have h4 := ((I.on w hw).1 (inst w hm)).2
            rw [h4] at h3
            exact hws ((h0.on w hw).2 ⟨h1, h3.symm⟩)
      · rw [eix, iv]; have := h0.n0; omega
      · exact (bl v hv).2 (.inr (List.mem_cons_self ..))
      · rw [elw, c', iv]; omega
  · have c' : lw s v < ix s v := by
      have : lw s v ≠ ix s v := c
      omega
    rw [if_neg c]
    refine ⟨s, v :: ext, rfl, ⟨I.li, I.ll, I.lo, I.stk, I.stn, I.srt, I.on, I.nx, I.n0, I.pos, fun x hx => I.gr x (List.mem_cons_of_mem _ hx), fun a b he ha hag => ?_, I.bb, I.lst, fun x hx => I.down x (List.mem_cons_of_mem _ hx), fun y hy => ?_⟩, fr, by rw [iv]; have := h0.n0; omega, .inr ⟨List.mem_cons_self .., lv, wit, fun b hb y hy he => ?_⟩⟩
    · by_cases e : a = v
      · subst e; exact (succ b he).1
      · exact I.nw a b he ha (fun hm => (List.mem_cons.1 hm).elim e hag)
    · obtain ⟨x, hx, h1, h2⟩ := I.back y hy
      rcases List.mem_cons.1 hx with rfl | hx
      · obtain ⟨z, hz, z1, z2⟩ := wit
        obtain ⟨x', hx', h3, h4⟩ := I.back z hz
        rcases List.mem_cons.1 hx' with rfl | hx'
        · omega
        · exact ⟨x', hx', by omega, (h2.trans z2).trans h4⟩
      · exact ⟨x, hx, h1, h2⟩
    · rw [← fr.ix y (h0.stn y hy) ((h0.on y (h0.stn y hy)).1 hy).1]
      rcases List.mem_cons.1 hb with rfl | hb
      · exact (succ y he).2 hy
      · exact hout b hb y hy he

/-! ### the loop of a search -/
theorem TI.low (h : TI g s st gray) (l : List Int) (hl : l.length = g.length) : TI g { s with low := l } st gray := ⟨h.li, hl, h.lo, h.stk, h.stn, h.srt, h.on, h.nx, h.n0, h.pos, h.gr, h.nw, h.bb, h.lst, h.down, h.back⟩
theorem lw_set (s : TS) (v w : Nat) (m : Int) (hv : v < s.low.length) : lw { s with low := s.low.set v m } w = if w = v then m else lw s w := by
  have := rd_set s.low (v : Int) (w : Int) m (by omega) (by omega) (by omega)
  rw [Int.toNat_natCast] at this
  show rd (s.low.set v m) (w : Int) = _
  rw [this]
  by_cases e : w = v
  · rw [if_pos e, if_pos (by omega)]
  · rw [if_neg e, if_neg (by omega)]; rfl
theorem LI.put {s0 : TS} {ext : List Nat} {i : Nat} (h : LI g s0 st gray v i s ext) (hv : v < g.length) (hw : ix s0 v = 0) {m : Int} (h1 : 1 ≤ m) (h2 : m ≤ lw s v) (wit : ∃ y, y ∈ st ++ v :: ext ∧ ix s y = m ∧ R g v y) :
    LI g s0 st gray v i { s with low := s.low.set v m } ext := by
  have hl := lw_set s v
  have hll := h.inv.ll
  have e : lw { s with low := s.low.set v m } v = m := by rw [hl v m (by omega), if_pos rfl]
  refine ⟨h.inv.low _ (by rw [List.length_set]; exact hll), ⟨h.fr.nx, h.fr.ix, fun w hwn h0 => ?_, h.fr.ou⟩, h.iv, by rw [e]; exact h1, by rw [e]; exact Int.le_trans h2 h.lv2, by rw [e]; exact wit, fun b hb y hy he => by rw [e]; exact Int.le_trans h2 (h.out b hb y hy he), fun j hj y hy hyn => ⟨(h.did j hj y hy hyn).1, fun hys => by rw [e]; exact Int.le_trans h2 ((h.did j hj y hy hyn).2 hys)⟩⟩
  rw [hl w m (by omega), if_neg (fun e => h0 (by rw [e]; exact hw))]
  exact h.fr.lw w hwn h0
theorem LI.next {s0 : TS} {ext : List Nat} {i : Nat} (h : LI g s0 st gray v i s ext) (d : ∀ y : Nat, rd (g.getD v []) (i : Int) = (y : Int) → y < g.length → ix s y ≠ 0 ∧ (y ∈ st → lw s v ≤ ix s y)) : LI g s0 st gray v (i + 1) s ext :=
  ⟨h.inv, h.fr, h.iv, h.lv, h.lv2, h.wit, h.out, fun j hj y hy hyn => by
    by_cases e : j = i
    · subst e; exact d y hy hyn
    · exact h.did j (by omega) y hy hyn⟩
theorem mn_le (a b : Int) : mn a b ≤ a ∧ mn a b ≤ b ∧ (mn a b = a ∨ mn a b = b) := by
  unfold mn
  split
  · exact ⟨by omega, by omega, .inr rfl⟩
  · exact ⟨by omega, by omega, .inl rfl⟩
theorem LI.call {s0 s2 : TS} {ext ext2 : List Nat} {i : Nat} (h : LI g s0 st gray v i s ext) (h0 : TI g s0 st gray) (hv : v < g.length) (hw : ix s0 v = 0) (he : Ed g v w) (p : Post g s (st ++ v :: ext) (v :: gray) w s2 ext2) :
    LI g s0 st gray v i { s2 with low := s2.low.set v (mn (lw s2 v) (lw s2 w)) } (ext ++ ext2) := by
  have hl := lw_set s2 v
  have hll := p.inv.ll
  have hiv0 : ix s v ≠ 0 := by rw [h.iv]; have := h0.n0; omega
  have elv : lw s2 v = lw s v := p.fr.lw v hv hiv0
  have eiv : ix s2 v = ix s v := p.fr.ix v hv hiv0
  obtain ⟨m, hm⟩ : ∃ m, m = mn (lw s2 v) (lw s2 w) := ⟨_, rfl⟩
  rw [← hm]
  have e : lw { s2 with low := s2.low.set v m } v = m := by rw [hl v m (by omega), if_pos rfl]
  have happ : (st ++ v :: ext) ++ ext2 = st ++ v :: (ext ++ ext2) := by simp
  have I2 := p.inv
  rw [happ] at I2
  obtain ⟨n1, n2, n3⟩ := mn_le (lw s2 v) (lw s2 w)
  rw [← hm] at n1 n2 n3
  have old : ∀ y, y ∈ st ++ v :: ext → ix s2 y = ix s y := fun y hy => p.fr.ix y (h.inv.stn y hy) ((h.inv.on y (h.inv.stn y hy)).1 hy).1
  have m1 : 1 ≤ m := by
    have := h.lv
    rcases p.how with ⟨_, _, q⟩ | ⟨_, q, _⟩
    · have := h.inv.n0
      rcases n3 with n3 | n3 <;> omega
    · rcases n3 with n3 | n3 <;> omega
  have wit : ∃ y, y ∈ st ++ v :: (ext ++ ext2) ∧ ix s2 y = m ∧ R g v y := by
    have one : m = lw s v → ∃ y, y ∈ st ++ v :: (ext ++ ext2) ∧ ix s2 y = m ∧ R g v y := fun h2 => by
      obtain ⟨y, y1, y2, y3⟩ := h.wit
      exact ⟨y, by rw [← happ]; exact List.mem_append.2 (.inl y1), by rw [old y y1, y2, h2], y3⟩
    rcases n3 with n3 | n3
    · exact one (by rw [n3, elv])
    · rcases p.how with ⟨_, _, q⟩ | ⟨_, _, ⟨y, y1, y2, y3⟩, _⟩
      · have := (h.inv.pos v hv).2
        have := h.lv2
        omega
      · exact ⟨y, by rw [← happ]; exact y1, by rw [y2, n3], (R.edge he).trans y3⟩
  refine ⟨I2.low _ (by rw [List.length_set]; exact hll), ⟨Int.le_trans h.fr.nx p.fr.nx, fun w' hn h1 => (h.fr.trans p.fr).ix w' hn h1, fun w' hn h1 => ?_, fun w' hn h1 => (h.fr.trans p.fr).ou w' hn h1⟩, eiv.trans h.iv, by rw [e]; exact m1, ?_, by rw [e]; exact wit, fun b hb y hy hed => ?_, fun j hj y hy hyn => ?_⟩
  · rw [hl w' m (by omega), if_neg (fun e => h1 (by rw [e]; exact hw))]
    exact (h.fr.trans p.fr).lw w' hn h1
  · rw [e]
    show m ≤ ix s2 v
    rw [eiv]
    have := h.lv2
    omega
  · rw [e]
    have hy2 : y ∈ st ++ v :: ext := List.mem_append.2 (.inl hy)
    show m ≤ ix s2 y
    rw [old y hy2]
    rcases List.mem_append.1 hb with hb | hb
    · have := h.out b hb y hy hed
      omega
    · rcases p.how with ⟨q, _, _⟩ | ⟨_, _, _, q⟩
      · rw [q] at hb; cases hb
      · have := q b hb y hy2 hed
        omega
  · obtain ⟨d1, d2⟩ := h.did j hj y hy hyn
    have e2 := p.fr.ix y hyn d1
    refine ⟨by show ix s2 y ≠ 0; rw [e2]; exact d1, fun hys => ?_⟩
    rw [e]
    show m ≤ ix s2 y
    rw [e2]
    have := d2 hys
    omega

theorem search_begin (h : TI g s st gray) (hv : v < g.length) (hw : ix s v = 0) (hr : ∀ x, x ∈ gray → R g x v) :
    LI g s st gray v 0 { next := s.next + 1, index := s.index.set v (s.next + 1), low := s.low.set v (s.next + 1), out := s.out.set v (-1), stack := s.stack ++ [(v : Int)] } [] := by
  obtain ⟨s1, hs1⟩ : ∃ s1 : TS, s1 = { next := s.next + 1, index := s.index.set v (s.next + 1), low := s.low.set v (s.next + 1), out := s.out.set v (-1), stack := s.stack ++ [(v : Int)] } := ⟨_, rfl⟩
  rw [← hs1]
  have hli := h.li
  have hll := h.ll
  have hlo := h.lo
  have hn0 := h.n0
  have eix : ∀ w : Nat, ix s1 w = if w = v then s.next + 1 else ix s w := fun w => by
    have := rd_set s.index (v : Int) (w : Int) (s.next + 1) (by omega) (by omega) (by omega)
    rw [Int.toNat_natCast] at this
    rw [hs1]
    show rd (s.index.set v (s.next + 1)) (w : Int) = _
    rw [this]
    by_cases e : w = v
    · rw [if_pos e, if_pos (by omega)]
    · rw [if_neg e, if_neg (by omega)]; rfl
  have elw : ∀ w : Nat, lw s1 w = if w = v then s.next + 1 else lw s w := fun w => by
    have := rd_set s.low (v : Int) (w : Int) (s.next + 1) (by omega) (by omega) (by omega)
    rw [Int.toNat_natCast] at this
    rw [hs1]
    show rd (s.low.set v (s.next + 1)) (w : Int) = _
    rw [this]
    by_cases e : w = v
    · rw [if_pos e, if_pos (by omega)]
    · rw [if_neg e, if_neg (by omega)]; rfl
  have eou : ∀ w : Nat, ou s1 w = if w = v then -1 else ou s w := fun w => by
    have := rd_set s.out (v : Int) (w : Int) (-1) (by omega) (by omega) (by omega)
    rw [Int.toNat_natCast] at this
    rw [hs1]
    show rd (s.out.set v (-1)) (w : Int) = _
    rw [this]
    by_cases e : w = v
    · rw [if_pos e, if_pos (by omega)]
    · rw [if_neg e, if_neg (by omega)]; rfl
  have ne : ∀ w, ix s w ≠ 0 → w ≠ v := fun w h0 e => h0 (by rw [e]; exact hw)
  have stne : ∀ w, w ∈ st → w ≠ v := fun w hm => ne w ((h.on w (h.stn w hm)).1 hm).1
  have stv : ∀ w, w ∈ st → ix s1 w = ix s w := fun w hm => by rw [eix, if_neg (stne w hm)]
  have ivv : ix s1 v = s.next + 1 := by rw [eix, if_pos rfl]
  have bl : ∀ w, Bl s1 w ↔ Bl s w := fun w => by
    unfold Bl
    rw [eix, eou]
    by_cases e : w = v
    · rw [if_pos e, if_pos e]
      exact ⟨fun h => absurd rfl h.2, fun h => absurd e (ne w h.1)⟩
    · rw [if_neg e, if_neg e]
  have hnx : s1.next = s.next + 1 := by rw [hs1]
  have hix : s1.index = s.index.set v (s.next + 1) := by rw [hs1]
  refine ⟨⟨by rw [hix, List.length_set]; exact hli, by rw [hs1]; show (s.low.set v (s.next + 1)).length = _; rw [List.length_set]; exact hll, by rw [hs1]; show (s.out.set v (-1)).length = _; rw [List.length_set]; exact hlo, by rw [hs1]; show s.stack ++ [(v : Int)] = _; rw [up_app, h.stk]; rfl, fun w hm => ?_, ?_, fun w hwn => ?_, ?_, by rw [hnx]; omega, fun w hwn => ?_, fun x hx => ?_, fun a b he ha hag => ?_, fun a b he ha => ?_, fun a ha hb => ?_, fun x hx y hy hle => ?_, fun y hy => ?_⟩, ⟨by rw [hnx]; omega, fun w hwn h0 => by rw [eix, if_neg (ne w h0)], fun w hwn h0 => by rw [elw, if_neg (ne w h0)], fun w hwn h0 => by rw [eou, if_neg (ne w h0)]⟩, ivv, by rw [elw, if_pos rfl]; omega, by rw [elw, if_pos rfl, ivv]; exact Int.le_refl _, ⟨v, by simp, by rw [ivv, elw, if_pos rfl], R.refl hv⟩, fun b hb => (by cases hb), fun j hj => absurd hj (Nat.not_lt_zero _)⟩
  · rcases List.mem_append.1 hm with hm | hm
    · exact h.stn w hm
    · simp at hm; omega
  · refine List.pairwise_append.2 ⟨h.srt.imp_of_mem (fun ha hb hab => by rw [stv _ ha, stv _ hb]; exact hab), by simp, fun a ha b hb => ?_⟩
    simp at hb
    rw [hb, stv a ha, ivv]
    have := (h.pos a (h.stn a ha)).2
    omega
  · rw [eix, eou, List.mem_append]
    by_cases e : w = v
    · rw [if_pos e, if_pos e]
      exact ⟨fun _ => ⟨by omega, rfl⟩, fun _ => .inr (by simp [e])⟩
    · rw [if_neg e, if_neg e, ← h.on w hwn]
      exact ⟨fun h => h.elim id (fun h => by simp at h; exact absurd h e), .inl⟩
  · have hc := count_set z0 s.index v (s.next + 1) 0 (by omega)
    have e1 : z0 (s.index.getD v 0) = true := by
      unfold z0
      rw [← rd_nat]
      exact decide_eq_true hw
    have e2 : z0 (s.next + 1) = false := decide_eq_false (by omega)
    rw [e1, e2, if_pos rfl, if_neg Bool.false_ne_true] at hc
    have := h.nx
    rw [hnx, hix]
    omega
  · rw [eix, hnx]
    have := h.pos w hwn
    split <;> omega
  · rcases List.mem_cons.1 hx with rfl | hx
    · simp
    · exact List.mem_append.2 (.inl (h.gr x hx))
  · have hav : a ≠ v := fun e => hag (by rw [e]; exact List.mem_cons_self ..)
    rw [eix, if_neg hav] at ha
    have := h.nw a b he ha (fun hm => hag (List.mem_cons_of_mem _ hm))
    rw [eix, if_neg (ne b this)]
    exact this
  · exact (bl b).2 (h.bb a b he ((bl a).1 ha))
  · have hb2 := (bl a).1 hb
    rw [eou, if_neg (ne a hb2.1)]
    exact h.lst a ha hb2
  · rcases List.mem_cons.1 hx with rfl | hx
    · rcases List.mem_append.1 hy with hy | hy
      · rw [ivv, stv y hy] at hle
        have := (h.pos y (h.stn y hy)).2
        omega
      · simp at hy
        rw [hy]; exact R.refl hv
    · rcases List.mem_append.1 hy with hy | hy
      · rw [stv y hy, stv x (h.gr x hx)] at hle
        exact h.down x hx y hy hle
      · simp at hy
        rw [hy]; exact hr x hx
  · rcases List.mem_append.1 hy with hy | hy
    · obtain ⟨x, hx, h1, h2⟩ := h.back y hy
      exact ⟨x, List.mem_cons_of_mem _ hx, by rw [stv y hy, stv x (h.gr x hx)]; exact h1, h2⟩
    · simp at hy
      exact ⟨v, List.mem_cons_self .., by rw [hy]; exact Int.le_refl _, by rw [hy]; exact R.refl hv⟩

theorem search_ev (h12 : g.length ≤ 1000000) (h20 : ∀ u, u < g.length → (g.getD u []).length ≤ 1000000) (rdL : ∀ i : Nat, rd_L1 g (i : Int) = g.getD i []) : ∀ (M : Nat) (s : TS) (st gray : List Nat) (v : Nat), s.index.countP z0 ≤ M → TI g s st gray → v < g.length → ix s v = 0 → (∀ x, x ∈ gray → R g x v) → ∃ s' ext, Ev (fun k => searchT k g (v : Int) s) s' ∧ Post g s st gray v s' ext := by
  intro M
  induction M with
  | zero =>
    intro s st gray v hM h hv hw hr
    exfalso
    have hli := h.li
    have : s.index.getD v 0 ∈ s.index := by
      rw [List.getD_eq_getElem?_getD, List.getElem?_eq_getElem (by omega)]
      exact List.getElem_mem _
    have h0 := (List.countP_eq_zero.1 (Nat.le_zero.1 hM)) _ this
    exact h0 (by unfold z0; rw [← rd_nat]; exact decide_eq_true hw)
  | succ M ih =>
    intro s st gray v hM h hv hw hr
    have hb := search_begin h hv hw hr
    obtain ⟨s1, hs1⟩ : ∃ s1 : TS, s1 = { next := s.next + 1, index := s.index.set v (s.next + 1), low := s.low.set v (s.next + 1), out := s.out.set v (-1), stack := s.stack ++ [(v : Int)] } := ⟨_, rfl⟩
    rw [← hs1] at hb
    have hxl := h20 v hv
    obtain ⟨s2, ⟨ext, h2⟩, hk⟩ := Ev_for (l := fun k (s : TS) i => loopT k g (v : Int) (g.getD v []) i s) (n := (g.getD v []).length) (inv := fun i s' => ∃ ext, LI g s st gray v i s' ext)
      (fun i s' hi ⟨ext, hL⟩ => by
        obtain ⟨a, ha⟩ : ∃ a, a = rd (g.getD v []) (i : Int) := ⟨_, rfl⟩
        by_cases c : 0 ≤ a ∧ a < (g.length : Int)
        · obtain ⟨c0, c1⟩ := c
          obtain ⟨w, rfl⟩ : ∃ w : Nat, a = (w : Int) := ⟨a.toNat, by omega⟩
          have hwn : w < g.length := by omega
          have he : Ed g v w := ⟨hv, hwn, by rw [ha]; exact rd_mem (by omega) (by omega)⟩
          by_cases d : rd s'.index (w : Int) = 0
          · have hgr : ∀ x, x ∈ v :: gray → R g x w := fun x hx => by
              rcases List.mem_cons.1 hx with rfl | hx
              · exact R.edge he
              · exact (hr x hx).trans (R.edge he)
            have hcnt : s'.index.countP z0 ≤ M := by
              have h1 := hL.inv.nx
              have h2 := h.nx
              have h3 := (hL.inv.pos v hv).2
              have h4 := hL.iv
              omega
            obtain ⟨s2, ext2, hev, hp⟩ := ih s' (st ++ v :: ext) (v :: gray) w hcnt hL.inv hwn d hgr
            refine ⟨_, ⟨ext ++ ext2, (hL.call h hv hw he hp).next (fun y hy hyn => ?_)⟩, fun r h => Ev.step (fun k => ?_) (Ev.bind (f := fun k s2 => loopT k g (v : Int) (g.getD v []) ((i + 1 : Nat) : Int) { s2 with low := s2.low.set v (mn (lw s2 v) (lw s2 w)) }) hev h)⟩
            · have : y = w := by omega
              subst this
              refine ⟨hp.seen, fun hys => ?_⟩
              exact absurd d ((hL.inv.on y hyn).1 (List.mem_append.2 (.inl hys))).1
            · simp only [loopT]
              rw [if_pos (by omega), if_pos (by omega), ← ha, if_pos ⟨c0, c1⟩, if_pos d, wrap_up hi (by omega), Int.toNat_natCast]
              rfl
          · by_cases d2 : rd s'.out (w : Int) = -1
            · have hws : w ∈ st ++ v :: ext := (hL.inv.on w hwn).2 ⟨d, d2⟩
              obtain ⟨n1, n2, n3⟩ := mn_le (lw s' v) (ix s' w)
              refine ⟨_, ⟨ext, (hL.put hv hw (m := mn (lw s' v) (ix s' w)) ?_ n1 ?_).next (fun y hy hyn => ?_)⟩, fun r h => Ev.step (fun k => ?_) h⟩
              · have h1 := hL.lv
                have h2 := (hL.inv.pos w hwn).1
                have d' : ix s' w ≠ 0 := d
                rcases n3 with n3 | n3 <;> omega
              · rcases n3 with n3 | n3
                · rw [n3]; exact hL.wit
                · exact ⟨w, hws, n3.symm, R.edge he⟩
              · have : y = w := by omega
                subst this
                refine ⟨d, fun _ => ?_⟩
                rw [lw_set s' v v _ (by rw [hL.inv.ll]; exact hv), if_pos rfl]
                exact n2
              · simp only [loopT]
                rw [if_pos (by omega), if_pos (by omega), ← ha, if_pos ⟨c0, c1⟩, if_neg d, if_pos d2, wrap_up hi (by omega), Int.toNat_natCast]
                rfl
            · refine ⟨s', ⟨ext, hL.next (fun y hy hyn => ?_)⟩, fun r h => Ev.step (fun k => ?_) h⟩
              · have : y = w := by omega
                subst this
                exact ⟨d, fun hys => absurd ((hL.inv.on y hyn).1 (List.mem_append.2 (.inl hys))).2 d2⟩
              · simp only [loopT]
                rw [if_pos (by omega), if_pos (by omega), ← ha, if_pos ⟨c0, c1⟩, if_neg d, if_neg d2, wrap_up hi (by omega)]
        · refine ⟨s', ⟨ext, hL.next (fun y hy hyn => absurd (by omega) c)⟩, fun r h => Ev.step (fun k => ?_) h⟩
          simp only [loopT]
          rw [if_pos (by omega), if_pos (by omega), ← ha, if_neg c, wrap_up hi (by omega)])
      (Nat.zero_le _) (s := s1) ⟨[], hb⟩
    obtain ⟨s', e', hfin, hp⟩ := h2.fin hv h hw
    have hnx := h.nx
    have hn0 := h.n0
    refine ⟨s', e', Ev.step (f := fun k => loopT k g (v : Int) (g.getD v []) 0 s1) (fun k => ?_) (hk s' (Ev.one (fun k => ?_))), hp⟩
    · have hlen := h.len
      simp only [searchT]
      rw [if_pos (by omega), if_pos (by omega), if_pos (by rw [h.stk, up_len]; omega), rdL, wrap_ok (by omega) (by omega), Int.toNat_natCast, hs1]
    · simp only [loopT]
      rw [if_neg (by omega)]
      exact hfin

/-- Of each vertex the least one in its component. -/
def IsComp (g : List (List Int)) (c : List Int) : Prop := c.length = g.length ∧ ∀ v, v < g.length → IsL g v (rd c (v : Int))
theorem IsComp.uniq {a b : List Int} (h : IsComp g a) (k : IsComp g b) : a = b := ext_rd (h.1.trans k.1.symm) (fun i hi => (h.2 i (by rw [← h.1]; exact hi)).uniq (k.2 i (by rw [← h.1]; exact hi)))
theorem components_ev (h12 : g.length ≤ 1000000) (h20 : ∀ u, u < g.length → (g.getD u []).length ≤ 1000000) (rdL : ∀ i : Nat, rd_L1 g (i : Int) = g.getD i []) : ∃ c, Ev (fun k => digraph_Components.f k g) c ∧ IsComp g c := by
  have rep : ∀ w : Nat, rd (List.replicate g.length (0 : Int)) (w : Int) = 0 := fun w => by
    rw [rd_nat, List.getD_eq_getElem?_getD, List.getElem?_replicate]
    split <;> rfl
  obtain ⟨s, ⟨hT, hd⟩, hk⟩ := Ev_for (l := fun k (s : TS) i => digraph_Components.l0 k g i s) (n := g.length) (inv := fun i s => TI g s [] [] ∧ ∀ w, w < i → ix s w ≠ 0)
    (fun v s hv ⟨hT, hd⟩ => by
      by_cases c : rd s.index (v : Int) = 0
      · obtain ⟨s', ext, hev, hp⟩ := search_ev h12 h20 rdL _ s [] [] v (Nat.le_refl _) hT hv c (fun x hx => by cases hx)
        have hext : ext = [] := by
          cases ext with
          | nil => rfl
          | cons y l =>
            obtain ⟨x, hx, _⟩ := hp.inv.back y (by simp)
            cases hx
        have hI := hp.inv
        rw [hext] at hI
        refine ⟨s', ⟨hI, fun w hw => ?_⟩, fun r h => Ev.step (fun k => ?_) (Ev.bind hev h)⟩
        · by_cases e : w = v
          · rw [e]; exact hp.seen
          · rw [hp.fr.ix w (by omega) (hd w (by omega))]; exact hd w (by omega)
        · simp only [digraph_Components.l0]
          rw [if_pos (by omega), if_pos (by omega), if_pos c, wrap_up hv (by omega)]
      · refine ⟨s, ⟨hT, fun w hw => ?_⟩, fun r h => Ev.step (fun k => ?_) h⟩
        · by_cases e : w = v
          · rw [e]; exact c
          · exact hd w (by omega)
        · simp only [digraph_Components.l0]
          rw [if_pos (by omega), if_pos (by omega), if_neg c, wrap_up hv (by omega)])
    (Nat.zero_le _) (s := { next := 0, index := List.replicate g.length 0, low := List.replicate g.length 0, out := List.replicate g.length 0, stack := [] })
    ⟨⟨by simp, by simp, by simp, rfl, fun v hv => (by cases hv), List.Pairwise.nil, fun v hv => ⟨fun h => (by cases h), fun h => absurd (rep v) h.1⟩, by rw [List.countP_replicate, if_pos (show z0 0 = true from rfl)]; exact Int.zero_add _, Int.le_refl _, fun v hv => by
        have h0 : ix { next := 0, index := List.replicate g.length 0, low := List.replicate g.length 0, out := List.replicate g.length 0, stack := [] } v = 0 := rep v
        rw [h0]
        exact ⟨Int.le_refl _, Int.le_refl _⟩, fun x hx => (by cases hx), fun a b he ha => absurd (rep a) ha, fun a b he ha => absurd (rep a) ha.1, fun a ha hb => absurd (rep a) hb.1, fun x hx => (by cases hx), fun y hy => (by cases hy)⟩, fun w hw => absurd hw (Nat.not_lt_zero _)⟩
  refine ⟨s.out, Ev.congr (f := fun k => digraph_Components.l0 k g 0 { next := 0, index := List.replicate g.length 0, low := List.replicate g.length 0, out := List.replicate g.length 0, stack := [] }) (fun k => ?_) (hk s.out (Ev.one (fun k => ?_))), hT.lo, fun v hv => hT.lst v hv ⟨hd v hv, fun e => ?_⟩⟩
  · unfold digraph_Components.f
    rw [if_pos (by omega)]
  · simp only [digraph_Components.l0]
    rw [if_neg (by omega)]
  · exact absurd ((hT.on v hv).2 ⟨hd v hv, e⟩) (by simp)
end
end Go.Proofs.Ytcljocmblplhcaa.Pl
