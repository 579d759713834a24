-- LAID BY OUR PROGRAM OVER THE PRINT (xprint.py): Lean checks it.
import Derived.Test.YtcljocmblplhcaaPx0
import Derived.Test.YtcljocmblplhcaaPx1
import Derived.BigRegion
import Derived.Laws.EntriesVeiled
import Derived.RegionTactic
namespace Go.Proofs.Ytcljocmblplhcaa.P
open Go.RowKit Go.Proofs.YtcljocmblplhcaaW.PrintWords Go.Proofs.YtcljocmblplhcaaW.PrintLast Go.Proofs.YtcljocmblplhcaaW.PrintMore
attribute [local go_sem] max2_int min2_int max_two min_two max_three min_three max_four min_four   -- for this text's walks alone
set_option linter.unusedVariables false
set_option linter.unusedSimpArgs false

/-! ### digraph_Components: function 13 -/
-- IMPORTS Derived.RegionTactic,Derived.BigRegion,Derived.Laws.EntriesVeiled
/-- What the search keeps. -/
structure TS where
  next : Int
  index : List Int
  low : List Int
  out : List Int
  stack : List Int

structure CNe (base Bn Bi Bl Bo Bs gi gl go : Nat) : Prop where
  h1 : gi ≠ gl
  h2 : gi ≠ go
  h3 : gl ≠ go
  h4 : Bn ≠ gi
  h5 : Bn ≠ gl
  h6 : Bn ≠ go
  h7 : Bi ≠ Bl
  h8 : Bi ≠ Bo
  h9 : Bi ≠ Bs
  h10 : Bl ≠ Bo
  h11 : Bl ≠ Bs
  h12 : Bo ≠ Bs
  b1 : base ≤ Bn
  b2 : base ≤ Bs
  b3 : base ≤ gi
  b4 : base ≤ gl
  b5 : base ≤ go
structure CInv (w0 w : World) (Bn Bi Bl Bo Bs Bg Bf gi gl go ci cl co : Nat) (A0 : Option Addr) (c0 : Nat) (g : List (List Int)) (s : TS) : Prop where
  hn : w.heap[Bn]? = some (.cells #[.int .i64 s.next] 3 (0, 0))
  hi : w.heap[Bi]? = some (.cells #[.slice (some ⟨gi, 0, none⟩) g.length ci] 26 (0, 0))
  hl : w.heap[Bl]? = some (.cells #[.slice (some ⟨gl, 0, none⟩) g.length cl] 26 (0, 0))
  ho : w.heap[Bo]? = some (.cells #[.slice (some ⟨go, 0, none⟩) g.length co] 26 (0, 0))
  hs : ∃ vs, w.heap[Bs]? = some (.cells #[vs] 26 (0, 0)) ∧ Kd.R (Kd.int .i64) 3 w w0.heap.size (fun k => (k ≠ gi ∧ k ≠ gl) ∧ k ≠ go ∧ k ≠ Bn) vs s.stack
  hg : w.heap[Bg]? = some (.cells #[.slice A0 g.length c0] 22 (0, 0))
  hf : w.heap[Bf]? = some (.cells #[.func (.func 31) #[] #[.pointer (some ⟨Bn, 0, none⟩), .pointer (some ⟨Bi, 0, none⟩), .pointer (some ⟨Bl, 0, none⟩), .pointer (some ⟨Bo, 0, none⟩), .pointer (some ⟨Bs, 0, none⟩), .pointer (some ⟨Bg, 0, none⟩), .pointer (some ⟨Bf, 0, none⟩)]] 41 (0, 0))
  ri : Kd.R (Kd.int .i64) 3 w w0.heap.size (fun k => k = gi) (.slice (some ⟨gi, 0, none⟩) g.length ci) s.index
  rl : Kd.R (Kd.int .i64) 3 w w0.heap.size (fun k => k = gl) (.slice (some ⟨gl, 0, none⟩) g.length cl) s.low
  ro : Kd.R (Kd.int .i64) 3 w w0.heap.size (fun k => k = go) (.slice (some ⟨go, 0, none⟩) g.length co) s.out
  B : Below w0.heap.size w0 w
section
variable {w0 w w1 : World} {Bn Bi Bl Bo Bs Bg Bf gi gl go ci cl co : Nat} {A0 : Option Addr} {c0 : Nat} {g : List (List Int)} {s : TS}
theorem CInv.below (h : CInv w0 w Bn Bi Bl Bo Bs Bg Bf gi gl go ci cl co A0 c0 g s) (hb : Below w.heap.size w w1) : CInv w0 w1 Bn Bi Bl Bo Bs Bg Bf gi gl go ci cl co A0 c0 g s := by
  obtain ⟨hn, hi, hl, ho, ⟨vs, h1, h2⟩, hg, hf, ri, rl, ro, B⟩ := h
  exact ⟨blk_below hn hb, blk_below hi hb, blk_below hl hb, blk_below ho hb, ⟨vs, blk_below h1 hb, Kd.R_below h2 hb⟩, blk_below hg hb, blk_below hf hb, Kd.R_below ri hb, Kd.R_below rl hb, Kd.R_below ro hb, B.trans (hb.mono B.size)⟩
theorem CInv.setI (h : CInv w0 w Bn Bi Bl Bo Bs Bg Bf gi gl go ci cl co A0 c0 g s) (ne : CNe w0.heap.size Bn Bi Bl Bo Bs gi gl go) (v x : Int) : CInv w0 (w.setCell ⟨gi, v.toNat, none⟩ (.int .i64 x)) Bn Bi Bl Bo Bs Bg Bf gi gl go ci cl co A0 c0 g { s with index := s.index.set v.toNat x } := by
  obtain ⟨hn, hi, hl, ho, ⟨vs, h1, h2⟩, hg, hf, ri, rl, ro, B⟩ := h
  obtain ⟨cells, hb⟩ := R_blk ri
  exact ⟨blk_set hn ne.h4 _, blk_set hi (blk_ne hi hb (by decide)) _, blk_set hl (blk_ne hl hb (by decide)) _, blk_set ho (blk_ne ho hb (by decide)) _, ⟨vs, blk_set h1 (blk_ne h1 hb (by decide)) _, Kd.R_far (p := ⟨gi, v.toNat, none⟩) h2 (fun k hk => hk.1.1) _⟩, blk_set hg (blk_ne hg hb (by decide)) _, blk_set hf (blk_ne hf hb (by decide)) _,
    (Kd.R_putg ri v x).1, Kd.R_far (p := ⟨gi, v.toNat, none⟩) rl (fun k hk => by rw [hk]; exact ne.h1.symm) _, Kd.R_far (p := ⟨gi, v.toNat, none⟩) ro (fun k hk => by rw [hk]; exact ne.h2.symm) _, below_set B ne.b3⟩
theorem CInv.setL (h : CInv w0 w Bn Bi Bl Bo Bs Bg Bf gi gl go ci cl co A0 c0 g s) (ne : CNe w0.heap.size Bn Bi Bl Bo Bs gi gl go) (v x : Int) : CInv w0 (w.setCell ⟨gl, v.toNat, none⟩ (.int .i64 x)) Bn Bi Bl Bo Bs Bg Bf gi gl go ci cl co A0 c0 g { s with low := s.low.set v.toNat x } := by
  obtain ⟨hn, hi, hl, ho, ⟨vs, h1, h2⟩, hg, hf, ri, rl, ro, B⟩ := h
  obtain ⟨cells, hb⟩ := R_blk rl
  exact ⟨blk_set hn ne.h5 _, blk_set hi (blk_ne hi hb (by decide)) _, blk_set hl (blk_ne hl hb (by decide)) _, blk_set ho (blk_ne ho hb (by decide)) _, ⟨vs, blk_set h1 (blk_ne h1 hb (by decide)) _, Kd.R_far (p := ⟨gl, v.toNat, none⟩) h2 (fun k hk => hk.1.2) _⟩, blk_set hg (blk_ne hg hb (by decide)) _, blk_set hf (blk_ne hf hb (by decide)) _,
    Kd.R_far (p := ⟨gl, v.toNat, none⟩) ri (fun k hk => by rw [hk]; exact ne.h1) _, (Kd.R_putg rl v x).1, Kd.R_far (p := ⟨gl, v.toNat, none⟩) ro (fun k hk => by rw [hk]; exact ne.h3.symm) _, below_set B ne.b4⟩
theorem CInv.setO (h : CInv w0 w Bn Bi Bl Bo Bs Bg Bf gi gl go ci cl co A0 c0 g s) (ne : CNe w0.heap.size Bn Bi Bl Bo Bs gi gl go) (v x : Int) : CInv w0 (w.setCell ⟨go, v.toNat, none⟩ (.int .i64 x)) Bn Bi Bl Bo Bs Bg Bf gi gl go ci cl co A0 c0 g { s with out := s.out.set v.toNat x } := by
  obtain ⟨hn, hi, hl, ho, ⟨vs, h1, h2⟩, hg, hf, ri, rl, ro, B⟩ := h
  obtain ⟨cells, hb⟩ := R_blk ro
  exact ⟨blk_set hn ne.h6 _, blk_set hi (blk_ne hi hb (by decide)) _, blk_set hl (blk_ne hl hb (by decide)) _, blk_set ho (blk_ne ho hb (by decide)) _, ⟨vs, blk_set h1 (blk_ne h1 hb (by decide)) _, Kd.R_far (p := ⟨go, v.toNat, none⟩) h2 (fun k hk => hk.2.1) _⟩, blk_set hg (blk_ne hg hb (by decide)) _, blk_set hf (blk_ne hf hb (by decide)) _,
    Kd.R_far (p := ⟨go, v.toNat, none⟩) ri (fun k hk => by rw [hk]; exact ne.h2) _, Kd.R_far (p := ⟨go, v.toNat, none⟩) rl (fun k hk => by rw [hk]; exact ne.h3) _, (Kd.R_putg ro v x).1, below_set B ne.b5⟩
theorem CInv.setN (h : CInv w0 w Bn Bi Bl Bo Bs Bg Bf gi gl go ci cl co A0 c0 g s) (ne : CNe w0.heap.size Bn Bi Bl Bo Bs gi gl go) (x : Int) : CInv w0 (w.setCell ⟨Bn, 0, none⟩ (.int .i64 x)) Bn Bi Bl Bo Bs Bg Bf gi gl go ci cl co A0 c0 g { s with next := x } := by
  obtain ⟨hn, hi, hl, ho, ⟨vs, h1, h2⟩, hg, hf, ri, rl, ro, B⟩ := h
  exact ⟨one_setCell hn, blk_set hi (blk_ne hi hn (by decide)) _, blk_set hl (blk_ne hl hn (by decide)) _, blk_set ho (blk_ne ho hn (by decide)) _, ⟨vs, blk_set h1 (blk_ne h1 hn (by decide)) _, Kd.R_far (p := ⟨Bn, 0, none⟩) h2 (fun k hk => hk.2.2) _⟩, blk_set hg (blk_ne hg hn (by decide)) _, blk_set hf (blk_ne hf hn (by decide)) _,
    Kd.R_far (p := ⟨Bn, 0, none⟩) ri (fun k hk => by rw [hk]; exact ne.h4.symm) _, Kd.R_far (p := ⟨Bn, 0, none⟩) rl (fun k hk => by rw [hk]; exact ne.h5.symm) _, Kd.R_far (p := ⟨Bn, 0, none⟩) ro (fun k hk => by rw [hk]; exact ne.h6.symm) _, below_set B ne.b1⟩
/-- The stack's variable gets a row (already there in the world). -/
theorem CInv.setS {v1 : Value} {st : List Int} (h : CInv w0 w Bn Bi Bl Bo Bs Bg Bf gi gl go ci cl co A0 c0 g s) (ne : CNe w0.heap.size Bn Bi Bl Bo Bs gi gl go) (h1 : Kd.R (Kd.int .i64) 3 w w0.heap.size (fun k => (k ≠ gi ∧ k ≠ gl) ∧ k ≠ go ∧ k ≠ Bn) v1 st) : CInv w0 (w.setCell ⟨Bs, 0, none⟩ v1) Bn Bi Bl Bo Bs Bg Bf gi gl go ci cl co A0 c0 g { s with stack := st } := by
  obtain ⟨hn, hi, hl, ho, ⟨vs, hs, h2⟩, hg, hf, ri, rl, ro, B⟩ := h
  exact ⟨blk_set hn (blk_ne hn hs (by decide)) _, blk_set hi ne.h9 _, blk_set hl ne.h11 _, blk_set ho ne.h12 _, ⟨v1, one_setCell hs, Kd.R_set h1 hs (by decide) _ _⟩, blk_set hg (blk_ne hg hs (by decide)) _, blk_set hf (blk_ne hf hs (by decide)) _, Kd.R_set ri hs (by decide) _ _, Kd.R_set rl hs (by decide) _ _, Kd.R_set ro hs (by decide) _ _, below_set B ne.b2⟩
/-- .. a row that has grown. -/
theorem CInv.push {v v1 : Value} {st : List Int} (h : CInv w0 w Bn Bi Bl Bo Bs Bg Bf gi gl go ci cl co A0 c0 g s) (ne : CNe w0.heap.size Bn Bi Bl Bo Bs gi gl go) (hT : Kd.R (Kd.int .i64) 3 w w0.heap.size (fun k => (k ≠ gi ∧ k ≠ gl) ∧ k ≠ go ∧ k ≠ Bn) v s.stack)
    (h1 : Kd.R (Kd.int .i64) 3 w1 w0.heap.size (fun k => (k ≠ gi ∧ k ≠ gl) ∧ k ≠ go ∧ k ≠ Bn) v1 st) (hb : Below w0.heap.size w0 w1) (hg : w.grownBy w1 v.ownBlock) :
    CInv w0 (w1.setCell ⟨Bs, 0, none⟩ v1) Bn Bi Bl Bo Bs Bg Bf gi gl go ci cl co A0 c0 g { s with stack := st } ∧ w1.cell? ⟨Bs, 0, none⟩ ≠ none ∧ w1.frozen? ⟨Bs, 0, none⟩ = false := by
  obtain ⟨hn, hi, hl, ho, ⟨vs, hs, h2⟩, hg', hf, ri, rl, ro, B⟩ := h
  have nb : ∀ b o, w.heap[b]? = some o → (∀ k, ((k ≠ gi ∧ k ≠ gl) ∧ k ≠ go ∧ k ≠ Bn) → k ≠ b) → w1.heap[b]? = some o := fun b o hb' hk => (hg.block b (lt_of_block hb') (fun he => hk b (hT.1 b he.symm) rfl)).trans hb'
  have ty : ∀ k, v.ownBlock = some k → ∃ cells, w.heap[k]? = some (.cells cells 3 (0, 0)) := Kd.R_typed hT
  have e1 := grown_blk hs ty (by decide) hg
  have far : ∀ {b cap : Nat} {xs : List Int}, (∀ k, ((k ≠ gi ∧ k ≠ gl) ∧ k ≠ go ∧ k ≠ Bn) → k ≠ b) → Kd.R (Kd.int .i64) 3 w w0.heap.size (fun k => k = b) (.slice (some ⟨b, 0, none⟩) g.length cap) xs → Kd.R (Kd.int .i64) 3 w1 w0.heap.size (fun k => k = b) (.slice (some ⟨b, 0, none⟩) g.length cap) xs := fun hk hr => Kd.R_grown hr hg (fun k hkb he => hk k (hT.1 k he.symm) hkb)
  have X : CInv w0 w1 Bn Bi Bl Bo Bs Bg Bf gi gl go ci cl co A0 c0 g { s with stack := st } → True := fun _ => trivial
  refine ⟨⟨?_, ?_, ?_, ?_, ⟨v1, one_setCell e1, Kd.R_set h1 e1 (by decide) _ _⟩, ?_, ?_, ?_, ?_, ?_, below_set hb ne.b2⟩, by rw [cell_of_one e1]; simp, free_of_one e1⟩
  · have e := nb Bn _ hn (fun k hk => hk.2.2)
    exact blk_set e (blk_ne e e1 (by decide)) _
  · exact blk_set (grown_blk hi ty (by decide) hg) ne.h9 _
  · exact blk_set (grown_blk hl ty (by decide) hg) ne.h11 _
  · exact blk_set (grown_blk ho ty (by decide) hg) ne.h12 _
  · have e := grown_blk hg' ty (by decide) hg
    exact blk_set e (blk_ne e e1 (by decide)) _
  · have e := grown_blk hf ty (by decide) hg
    exact blk_set e (blk_ne e e1 (by decide)) _
  · exact Kd.R_set (far (fun k hk => hk.1.1) ri) e1 (by decide) _ _
  · exact Kd.R_set (far (fun k hk => hk.1.2) rl) e1 (by decide) _ _
  · exact Kd.R_set (far (fun k hk => hk.2.1) ro) e1 (by decide) _ _
end
/-! The search as plain functions. -/
def downT (st : List Int) (v : Int) : Nat → Option Nat
  | 0 => if rd st ((0 : Nat) : Int) = v then some 0 else none
  | n + 1 => if rd st ((n + 1 : Nat) : Int) = v then some (n + 1) else downT st v n
def assignT : List Int → List Int → Int → Option (List Int)
  | out, [], _ => some out
  | out, x :: xs, f => if 0 ≤ x then (if x < (out.length : Int) then assignT (out.set x.toNat f) xs f else none) else none
def finishT (v : Int) (s : TS) : Option TS :=
  if 0 < s.stack.length then (downT s.stack v (s.stack.length - 1)).bind fun a => (assignT s.out (s.stack.drop a) ((s.stack.drop a).foldl mn v)).bind fun o => some { s with out := o, stack := s.stack.take a } else none
mutual
def searchT : Nat → List (List Int) → Int → TS → Option TS
  | 0, _, _, _ => none
  | k + 1, g, v, s => if 0 ≤ v then (if v < (g.length : Int) then (if s.stack.length < 17592186044416 then
      loopT k g v (rd_L1 g v) 0 { next := wrap64 (s.next + 1), index := s.index.set v.toNat (wrap64 (s.next + 1)), low := s.low.set v.toNat (wrap64 (s.next + 1)), out := s.out.set v.toNat (-1), stack := s.stack ++ [v] } else none) else none) else none
def loopT : Nat → List (List Int) → Int → List Int → Int → TS → Option TS
  | 0, _, _, _, _, _ => none
  | k + 1, g, v, xs, i, s => if i < (xs.length : Int) then (if 0 ≤ i then
      (if 0 ≤ rd xs i ∧ rd xs i < (g.length : Int) then
        (if rd s.index (rd xs i) = 0 then ((searchT k g (rd xs i) s).bind fun s2 => loopT k g v xs (wrap64 (i + 1)) { s2 with low := s2.low.set v.toNat (mn (rd s2.low v) (rd s2.low (rd xs i))) })
         else if rd s.out (rd xs i) = -1 then loopT k g v xs (wrap64 (i + 1)) { s with low := s.low.set v.toNat (mn (rd s.low v) (rd s.index (rd xs i))) }
         else loopT k g v xs (wrap64 (i + 1)) s)
       else loopT k g v xs (wrap64 (i + 1)) s) else none)
    else if rd s.low v = rd s.index v then finishT v s else some s
end
section
variable {w0 w w1 : World} {Bn Bi Bl Bo Bs Bg Bf gi gl go ci cl co : Nat} {A0 : Option Addr} {c0 : Nat} {g : List (List Int)} {s : TS}
theorem CInv.stk (h : CInv w0 w Bn Bi Bl Bo Bs Bg Bf gi gl go ci cl co A0 c0 g s) (hp : 0 < s.stack.length) : ∃ gs cs, w.heap[Bs]? = some (.cells #[.slice (some ⟨gs, 0, none⟩) s.stack.length cs] 26 (0, 0)) ∧ Kd.R (Kd.int .i64) 3 w w0.heap.size (fun k => (k ≠ gi ∧ k ≠ gl) ∧ k ≠ go ∧ k ≠ Bn) (.slice (some ⟨gs, 0, none⟩) s.stack.length cs) s.stack ∧ s.stack.length ≤ cs ∧ (s.stack.length : Int) ≤ 9223372036854775807 ∧ ∀ i, i < s.stack.length → w.cell? ⟨gs, i, none⟩ = some (.int .i64 (rd s.stack (i : Int))) := by
  obtain ⟨vs, h1, h2⟩ := h.hs
  obtain ⟨gs, cs, rfl, _, _, _⟩ := Kd.R_form h2 hp
  obtain ⟨_, hc, hC⟩ := Kd.R_reads' h2
  exact ⟨gs, cs, h1, h2, hc, by have := hC.2.1; omega, fun i hi => by have := (Kd.R_celln (0 : Int) h2 (i : Int) (by omega) (by omega)).1; rwa [Int.toNat_natCast] at this⟩
theorem CInv.fresh (h : CInv w0 w Bn Bi Bl Bo Bs Bg Bf gi gl go ci cl co A0 c0 g s) (k : Nat) (hk : w.heap.size ≤ k) : (k ≠ gi ∧ k ≠ gl) ∧ k ≠ go ∧ k ≠ Bn := by
  obtain ⟨c1, h1⟩ := R_blk h.ri
  obtain ⟨c2, h2⟩ := R_blk h.rl
  obtain ⟨c3, h3⟩ := R_blk h.ro
  have := lt_of_block h1
  have := lt_of_block h2
  have := lt_of_block h3
  have := lt_of_block h.hn
  refine ⟨⟨?_, ?_⟩, ?_, ?_⟩ <;> omega
/-- What the walk reads of a row at a place. -/
theorem CInv.cells (h : CInv w0 w Bn Bi Bl Bo Bs Bg Bf gi gl go ci cl co A0 c0 g s) (x : Int) (h0 : 0 ≤ x) (h1 : x < (g.length : Int)) :
    (w.cell? ⟨gi, x.toNat, none⟩ = some (.int .i64 (rd s.index x)) ∧ w.frozen? ⟨gi, x.toNat, none⟩ = false) ∧ (w.cell? ⟨gl, x.toNat, none⟩ = some (.int .i64 (rd s.low x)) ∧ w.frozen? ⟨gl, x.toNat, none⟩ = false) ∧ (w.cell? ⟨go, x.toNat, none⟩ = some (.int .i64 (rd s.out x)) ∧ w.frozen? ⟨go, x.toNat, none⟩ = false) :=
  ⟨Kd.R_celln (0 : Int) h.ri x h0 h1, Kd.R_celln (0 : Int) h.rl x h0 h1, Kd.R_celln (0 : Int) h.ro x h0 h1⟩
end

set_option maxHeartbeats 2000000 in
set_option maxRecDepth 100000 in
theorem search_any (w0 : World) (Bn Bi Bl Bo Bs Bg Bf gi gl go ci cl co : Nat) (A0 : Option Addr) (c0 : Nat) (g : List (List Int)) (hr0 : Kd.C (Kd.slice 3 (Kd.int .i64)) w0 A0 g.length g) (hc0 : g.length ≤ c0) (ne : CNe w0.heap.size Bn Bi Bl Bo Bs gi gl go) (k : Nat) :
    ∀ (w : World) (s s' : TS) (v : Int), CInv w0 w Bn Bi Bl Bo Bs Bg Bf gi gl go ci cl co A0 c0 g s → searchT k g v s = some s' →
    Calls Try.prog 31 #[.int .i64 v, .pointer (some ⟨Bn, 0, none⟩), .pointer (some ⟨Bi, 0, none⟩), .pointer (some ⟨Bl, 0, none⟩), .pointer (some ⟨Bo, 0, none⟩), .pointer (some ⟨Bs, 0, none⟩), .pointer (some ⟨Bg, 0, none⟩), .pointer (some ⟨Bf, 0, none⟩)] w fun e w' => e = .returned (.tuple #[]) ∧ CInv w0 w' Bn Bi Bl Bo Bs Bg Bf gi gl go ci cl co A0 c0 g s' := by
  have HR0 := Aside0.mk hr0
  have HC0 := Aside0.mk hc0
  have NE := Aside0.mk ne
  clear hr0 hc0 ne
  induction k using Nat.strongRecOn with
  | _ k IH =>
  intro w s s' v h hs
  cases k with
  | zero => simp [searchT] at hs
  | succ k =>
  simp only [searchT] at hs
  by_cases hv0 : 0 ≤ v
  case neg => rw [if_neg hv0] at hs; cases hs
  rw [if_pos hv0] at hs
  by_cases hv1 : v < (g.length : Int)
  case neg => rw [if_neg hv1] at hs; cases hs
  rw [if_pos hv1] at hs
  by_cases hlim : s.stack.length < 17592186044416
  case neg => rw [if_neg hlim] at hs; cases hs
  rw [if_pos hlim] at hs
  have H := Aside0.mk hs
  have HV := Aside0.mk h
  have IHA := Aside0.mk IH
  have cn := cell_of_one h.hn
  have fn := free_of_one h.hn
  have HV1 := Aside0.mk (h.setN NE.out (wrap64 (s.next + 1)))
  clear hs h IH
  have HV2 := Aside0.mk (HV1.out.setI NE.out v (wrap64 (s.next + 1)))
  have HV3 := Aside0.mk (HV2.out.setL NE.out v (wrap64 (s.next + 1)))
  have HV4 := Aside0.mk (HV3.out.setO NE.out v (-1))
  have ci1 := cell_of_one HV1.out.hi
  have cl1 := cell_of_one HV1.out.hl
  have co1 := cell_of_one HV1.out.ho
  have cn1 := cell_of_one HV1.out.hn
  have ci2 := cell_of_one HV2.out.hi
  have cl2 := cell_of_one HV2.out.hl
  have co2 := cell_of_one HV2.out.ho
  have cn2 := cell_of_one HV2.out.hn
  have ci3 := cell_of_one HV3.out.hi
  have cl3 := cell_of_one HV3.out.hl
  have co3 := cell_of_one HV3.out.ho
  have cn3 := cell_of_one HV3.out.hn
  obtain ⟨x1, f1⟩ := (HV1.out.cells v hv0 hv1).1
  obtain ⟨x2, f2⟩ := (HV2.out.cells v hv0 hv1).2.1
  obtain ⟨x3, f3⟩ := (HV3.out.cells v hv0 hv1).2.2
  go_enter Try.func31, Try.ntmps31
  go_step3
  go_upto_region 1 with (fail)
  go_cut [] (fun wc => Aside0 (CInv w0 wc Bn Bi Bl Bo Bs Bg Bf gi gl go ci cl co A0 c0 g { next := wrap64 (s.next + 1), index := s.index.set v.toNat (wrap64 (s.next + 1)), low := s.low.set v.toNat (wrap64 (s.next + 1)), out := s.out.set v.toNat (-1), stack := s.stack }))
  case first =>
    go_region
    go_wp2
    go_meet
    case rel => exact ⟨HV4.out.below (below_drew (Below.refl _ _))⟩
  case rest =>
    clear HV HV1 HV2 HV3 HV4 ci1 cl1 co1 cn1 ci2 cl2 co2 cn2 ci3 cl3 co3 cn3 x1 f1 x2 f2 x3 f3 cn fn
    have HV := hcut
    clear hcut
    obtain ⟨vs, hs1, hs2⟩ := HV.out.hs
    have cs1 := cell_of_one hs1
    have HS := Aside0.mk hs2
    obtain ⟨ad, A3, c3, e3, hx3, hl3, hi3⟩ := at_L1 HR0.out v hv0 hv1
    subst e3
    have HX3 := Aside0.mk hx3
    have HI3 := Aside0.mk hi3
    clear hs1 hs2 hx3 hi3
    go_wp2_with (first
      | ((with_reducible refine gate_builtin (b := .append) (xs := #[.tmp 30, .tmp 32]) rfl ?_); at_builtin; refine Kd.R_append (Kd.int .i64) (w0 := w0) w0.heap.size rfl (.tmp 30) (.tmp 32) 26 3 (.int .i64 0) 8 rfl Try.underlying26 info3 rfl (by decide) (by omega) vs s.stack v [.int .i64 v] (fun k => (k ≠ gi ∧ k ≠ gl) ∧ k ≠ go ∧ k ≠ Bn) (fun _ => False) rfl rfl ?aP (fun _ hk => hk.elim) ?aF ?aO ?aB ?aS ?aL ?_; (case aP => exact rfl); (case aF => exact (fun k hk => HV.out.fresh k hk)); (case aO => exact HS.out); (case aB => exact HV.out.B); (case aS => exact HV.out.B.size); (case aL => omega); intro v2 w2 ho hb hg hat; obtain ⟨A2, k2, rfl⟩ := Kd.R_slice ho; have HP := Aside0.mk (CInv.push HV.out NE.out HS.out ho hb hg); obtain ⟨c2, hc2⟩ := Option.ne_none_iff_exists'.mp HP.out.2.1; have hf2 := HP.out.2.2; clear ho hb hg hat; have cg2 := cell_of_one HP.out.1.hg; have hx4 := (HP.out.1.B.cell (World.block_lt_of_cell? w0 _ HX3.out)).trans HX3.out; simp only [List.length_append, List.length_singleton] at cg2 hx4 HP))
    go_loopg [39] k (fun kq v39 w' => ∃ (i : Int) (s2 : TS), v39 = .int .i64 i ∧ Aside0 (loopT kq g v (rd_L1 g v) i s2 = some s') ∧ Aside0 (kq ≤ k) ∧ Aside0 (CInv w0 w' Bn Bi Bl Bo Bs Bg Bf gi gl go ci cl co (some ad) c0 g s2))
    case atStart => exact ⟨0, _, rfl, H, ⟨Nat.le_refl _⟩, ⟨HP.out.1⟩⟩
    case round =>
      clear H HV HP HS hx4 cg2 hc2 hf2 cs1
      obtain ⟨i, s2, rfl, HA, HK, HV⟩ := hrel
      cases gk with
      | zero => exact absurd HA.out (by simp [loopT])
      | succ k1 =>
      have H := HA.out
      clear HA
      simp only [loopT] at H
      have cg := cell_of_one HV.out.hg
      by_cases c1 : i < ((rd_L1 g v).length : Int)
      · rw [if_pos c1] at H
        have c1b : decide (i < ((rd_L1 g v).length : Int)) = true := decide_eq_true c1
        by_cases c2 : 0 ≤ i
        case neg => rw [if_neg c2] at H; cases H
        rw [if_pos c2] at H
        obtain ⟨ad2, e4, hx5⟩ := Kd.at_int HI3.out i c2 c1
        subst e4
        replace hx5 := (HV.out.B.cell (World.block_lt_of_cell? w0 _ hx5)).trans hx5
        obtain ⟨x, hx⟩ : ∃ x, x = rd (rd_L1 g v) i := ⟨_, rfl⟩
        rw [← hx] at H hx5
        clear hx
        have HR := Aside0.mk (Kd.C_below HR0.out HV.out.B)
        by_cases c3 : 0 ≤ x ∧ x < (g.length : Int)
        · rw [if_pos c3] at H
          have HI := Aside0.mk (show digraph_inside.f g x = some true by unfold digraph_inside.f; rw [if_pos c3.1, decide_eq_true c3.2])
          obtain ⟨c3a, c3b⟩ := c3
          have ci1 := cell_of_one HV.out.hi
          obtain ⟨x1, f1⟩ := (HV.out.cells x c3a c3b).1
          by_cases c4 : rd s2.index x = 0
          · rw [if_pos c4] at H
            rw [c4] at x1
            obtain ⟨s3, h3, h4⟩ := Option.bind_eq_some_iff.mp H
            have HS3 := Aside0.mk h3
            have H' := Aside0.mk h4
            have cf := cell_of_one HV.out.hf
            clear H h3 h4 c4
            go_wp2_with (first
              | (go_at_call 32; refine (digraph_inside.calls _ _ _ _ _ _ HR.out HC0.out HI.out).mono ?_; rintro e w2 ⟨rfl, ⟨n, rfl⟩⟩)
              | (go_at_call 31; refine (IHA.out k1 (by have := HK.out; omega) _ s2 s3 x (HV.out.below (below_self _ _)) HS3.out).mono ?_; rintro e w3 ⟨rfl, hv3⟩; have HV3 := Aside0.mk hv3; clear hv3; have cl3 := cell_of_one HV3.out.hl; obtain ⟨y1, g1⟩ := (HV3.out.cells v hv0 hv1).2.1; obtain ⟨y2, g2⟩ := (HV3.out.cells x c3a c3b).2.1))
            go_region
            go_wp2
            · have hm : mn (rd s3.low v) (rd s3.low x) = rd s3.low x := by unfold mn; split <;> omega
              rw [hm] at H'
              go_roundg k1
              case measure => have := HK.out; omega
              case rel => exact ⟨_, _, rfl, H', ⟨by have := HK.out; omega⟩, ⟨(HV3.out.setL NE.out v _).below (below_drew (Below.refl _ _))⟩⟩
            · have hm : mn (rd s3.low v) (rd s3.low x) = rd s3.low v := by unfold mn; split <;> omega
              rw [hm] at H'
              go_roundg k1
              case measure => have := HK.out; omega
              case rel => exact ⟨_, _, rfl, H', ⟨by have := HK.out; omega⟩, ⟨(HV3.out.setL NE.out v _).below (below_drew (Below.refl _ _))⟩⟩
          · rw [if_neg c4] at H
            have c4b : (rd s2.index x == 0) = false := beq_eq_false_iff_ne.mpr c4
            have co1 := cell_of_one HV.out.ho
            obtain ⟨x2, f2⟩ := (HV.out.cells x c3a c3b).2.2
            by_cases c5 : rd s2.out x = -1
            · rw [if_pos c5] at H
              rw [c5] at x2
              have H' := Aside0.mk H
              clear H c4 c5
              have cl1 := cell_of_one HV.out.hl
              obtain ⟨y1, g1⟩ := (HV.out.cells v hv0 hv1).2.1
              go_wp2_with (first | (go_at_call 32; refine (digraph_inside.calls _ _ _ _ _ _ HR.out HC0.out HI.out).mono ?_; rintro e w2 ⟨rfl, ⟨n, rfl⟩⟩))
              go_region
              go_wp2
              · have hm : mn (rd s2.low v) (rd s2.index x) = rd s2.index x := by unfold mn; split <;> omega
                rw [hm] at H'
                go_roundg k1
                case measure => have := HK.out; omega
                case rel => exact ⟨_, _, rfl, H', ⟨by have := HK.out; omega⟩, ⟨(HV.out.below (below_self _ _)).setL NE.out v _⟩⟩
              · have hm : mn (rd s2.low v) (rd s2.index x) = rd s2.low v := by unfold mn; split <;> omega
                rw [hm] at H'
                go_roundg k1
                case measure => have := HK.out; omega
                case rel => exact ⟨_, _, rfl, H', ⟨by have := HK.out; omega⟩, ⟨(HV.out.below (below_self _ _)).setL NE.out v _⟩⟩
            · rw [if_neg c5] at H
              have c5b : (rd s2.out x == -1) = false := beq_eq_false_iff_ne.mpr c5
              have H' := Aside0.mk H
              clear H c4 c5
              go_wp2_with (first | (go_at_call 32; refine (digraph_inside.calls _ _ _ _ _ _ HR.out HC0.out HI.out).mono ?_; rintro e w2 ⟨rfl, ⟨n, rfl⟩⟩))
              go_roundg k1
              case measure => have := HK.out; omega
              case rel => exact ⟨_, _, rfl, H', ⟨by have := HK.out; omega⟩, ⟨HV.out.below (below_self _ _)⟩⟩
        · rw [if_neg c3] at H
          have HI := Aside0.mk (show digraph_inside.f g x = some false by
            unfold digraph_inside.f
            by_cases h0 : 0 ≤ x
            · rw [if_pos h0, decide_eq_false (fun h1 => c3 ⟨h0, h1⟩)]
            · rw [if_neg h0])
          have H' := Aside0.mk H
          clear H c3
          go_wp2_with (first | (go_at_call 32; refine (digraph_inside.calls _ _ _ _ _ _ HR.out HC0.out HI.out).mono ?_; rintro e w2 ⟨rfl, ⟨n, rfl⟩⟩))
          go_roundg k1
          case measure => have := HK.out; omega
          case rel => exact ⟨_, _, rfl, H', ⟨by have := HK.out; omega⟩, ⟨HV.out.below (below_self _ _)⟩⟩
      · rw [if_neg c1] at H
        have c1b : decide (i < ((rd_L1 g v).length : Int)) = false := decide_eq_false c1
        have cl1 := cell_of_one HV.out.hl
        have ci1 := cell_of_one HV.out.hi
        obtain ⟨x1, f1⟩ := (HV.out.cells v hv0 hv1).1
        obtain ⟨x2, f2⟩ := (HV.out.cells v hv0 hv1).2.1
        by_cases c2 : rd s2.low v = rd s2.index v
        · rw [if_pos c2] at H
          have c2b : (rd s2.low v == rd s2.index v) = true := beq_iff_eq.mpr c2
          have c2c : (rd s2.low v != rd s2.index v) = false := bne_eq_false_iff_eq.mpr c2
          have H' := Aside0.mk H
          clear H c2
          go_wp2
          go_quiet (fail)
          go_upto_region 14 with (fail)
          clear cl1 ci1 x1 f1 x2 f2 c2b c2c c1b cg
          have H := H'.out
          clear H'
          unfold finishT at H
          by_cases hp : 0 < s2.stack.length
          case neg => rw [if_neg hp] at H; cases H
          rw [if_pos hp] at H
          obtain ⟨a, hd, H⟩ := Option.bind_eq_some_iff.mp H
          obtain ⟨o, ha, H⟩ := Option.bind_eq_some_iff.mp H
          obtain rfl := Option.some.inj H
          obtain ⟨gs, cs, hs1, hs2, hs3, hs4, hs5⟩ := HV.out.stk hp
          have cs1 := cell_of_one hs1
          have HD := Aside0.mk hd
          have HA := Aside0.mk ha
          clear H hs1 hs2 hs5 hd ha
          go_wp2
          go_step3
          go_wp2
          go_loopg [11] (s2.stack.length - 1) (fun kq v11 w' => v11 = .int .i64 (kq : Int) ∧ Aside0 (downT s2.stack v kq = some a) ∧ Aside0 (kq < s2.stack.length) ∧ Aside0 (CInv w0 w' Bn Bi Bl Bo Bs Bg Bf gi gl go ci cl co (some ad) c0 g s2))
          case atStart => exact ⟨by congr 1; omega, HD, ⟨by omega⟩, ⟨HV.out.below (below_self _ _)⟩⟩
          case round =>
            clear HD HV cs1 hs3 hs4
            obtain ⟨rfl, HD, HK2, HV⟩ := hrel
            obtain ⟨gs, cs, hs1, hs2, hs3, hs4, hs5⟩ := HV.out.stk hp
            have cs1 := cell_of_one hs1
            have hx := hs5 gk HK2.out
            have hk2 := HK2.out
            have HS5 := Aside0.mk hs5
            have HS2 := Aside0.mk hs2
            clear hs1 hs2 hs5
            have hd := HD.out
            by_cases c4 : rd s2.stack (gk : Int) = v
            · have c4b : (rd s2.stack (gk : Int) == v) = true := beq_iff_eq.mpr c4
              have e5 : a = gk := by
                cases gk with
                | zero => simp only [downT] at hd; rw [if_pos c4] at hd; exact (Option.some.inj hd).symm
                | succ m => simp only [downT] at hd; rw [if_pos c4] at hd; exact (Option.some.inj hd).symm
              subst e5
              have hac : decide (cs = a) = false := decide_eq_false (by omega)
              obtain ⟨wo, rfl⟩ : ∃ wo : World, wo = wr := ⟨_, rfl⟩
              clear hd HD c4
              go_wp2
              go_loopg [12, 110] (s2.stack.length - a) (fun kq v12 v110 w' => ∃ (f : Int) (j : Nat), v12 = .int .i64 f ∧ v110 = .int .i64 (j : Int) ∧ Aside0 (((s2.stack.drop a).drop j).foldl mn f = (s2.stack.drop a).foldl mn v) ∧ Aside0 (j ≤ s2.stack.length - a) ∧ Aside0 (kq = s2.stack.length - a - j) ∧ w' = wo)
              case atStart => exact ⟨v, 0, rfl, rfl, ⟨rfl⟩, ⟨Nat.zero_le _⟩, ⟨by omega⟩, rfl⟩
              case round =>
                obtain ⟨f, j, rfl, rfl, HF, HJ, HG, rfl⟩ := hrel
                have hj := HJ.out
                by_cases c6 : j < s2.stack.length - a
                · have c6b : decide (j < s2.stack.length - a) = true := decide_eq_true c6
                  have hx2 := HS5.out (a + j) (by omega)
                  have hf := HF.out
                  rw [drop_step _ _ _ c6] at hf
                  obtain ⟨x, ex⟩ : ∃ x, x = rd s2.stack ((a + j : Nat) : Int) := ⟨_, rfl⟩
                  rw [← ex] at hf hx2
                  rw [List.foldl_cons] at hf
                  clear ex HF
                  by_cases c7 : x < f
                  · rw [show mn f x = x by unfold mn; rw [if_pos c7]] at hf
                    have HF := Aside0.mk hf
                    clear hf
                    go_wp2
                    go_roundg (s2.stack.length - a - (j + 1))
                    case measure => have := HG.out; omega
                    case rel => exact ⟨x, j + 1, rfl, by go_num, HF, ⟨by omega⟩, ⟨rfl⟩, rfl⟩
                  · rw [show mn f x = f by unfold mn; rw [if_neg c7]] at hf
                    have HF := Aside0.mk hf
                    clear hf
                    go_wp2
                    go_roundg (s2.stack.length - a - (j + 1))
                    case measure => have := HG.out; omega
                    case rel => exact ⟨f, j + 1, rfl, by go_num, HF, ⟨by omega⟩, ⟨rfl⟩, rfl⟩
                · have c6b : decide (j < s2.stack.length - a) = false := decide_eq_false c6
                  have hf := HF.out
                  rw [drop_end _ _ _ c6] at hf
                  simp only [List.foldl_nil] at hf
                  have HAS := HA
                  rw [← hf] at HAS
                  clear HF hf HA
                  go_wp2
                  go_loopg [122] (s2.stack.length - a) (fun kq v122 w' => ∃ (j : Nat) (out3 : List Int), v122 = .int .i64 (j : Int) ∧ Aside0 (assignT out3 ((s2.stack.drop a).drop j) f = some o) ∧ Aside0 (j ≤ s2.stack.length - a) ∧ Aside0 (kq = s2.stack.length - a - j) ∧ Aside0 (CInv w0 w' Bn Bi Bl Bo Bs Bg Bf gi gl go ci cl co (some ad) c0 g { s2 with out := out3 }) ∧ Aside0 (Kd.R (Kd.int .i64) 3 w' w0.heap.size (fun k => (k ≠ gi ∧ k ≠ gl) ∧ k ≠ go ∧ k ≠ Bn) (.slice (some ⟨gs, 0, none⟩) s2.stack.length cs) s2.stack))
                  case atStart => exact ⟨0, _, rfl, HAS, ⟨Nat.zero_le _⟩, ⟨by omega⟩, HV, HS2⟩
                  case round =>
                    clear HAS HV HS2 HS5 cs1 hx
                    obtain ⟨j, out3, rfl, HAS, HJ, HG, HV, HS2⟩ := hrel
                    have hj := HJ.out
                    have has := HAS.out
                    clear HAS
                    by_cases c8 : j < s2.stack.length - a
                    · have c8b : decide (j < s2.stack.length - a) = true := decide_eq_true c8
                      obtain ⟨hx2, _⟩ := Kd.R_celln (0 : Int) HS2.out ((a + j : Nat) : Int) (by omega) (by omega)
                      rw [Int.toNat_natCast] at hx2
                      rw [drop_step _ _ _ c8] at has
                      obtain ⟨x, ex⟩ : ∃ x, x = rd s2.stack ((a + j : Nat) : Int) := ⟨_, rfl⟩
                      replace hx2 : wr.cell? ⟨gs, a + j, none⟩ = some (.int .i64 x) := by rw [ex]; exact hx2
                      rw [← ex] at has
                      clear ex
                      simp only [assignT] at has
                      by_cases d0 : 0 ≤ x
                      case neg => rw [if_neg d0] at has; cases has
                      rw [if_pos d0] at has
                      by_cases d1 : x < (out3.length : Int)
                      case neg => rw [if_neg d1] at has; cases has
                      rw [if_pos d1] at has
                      rw [R_len HV.out.ro] at d1
                      have HAS := Aside0.mk has
                      have co1 := cell_of_one HV.out.ho
                      obtain ⟨y1, y2⟩ := (HV.out.cells x d0 d1).2.2
                      clear has
                      go_wp2
                      go_roundg (s2.stack.length - a - (j + 1))
                      case measure => have := HG.out; omega
                      case rel => exact ⟨j + 1, _, by go_num, HAS, ⟨by omega⟩, ⟨rfl⟩, ⟨HV.out.setO NE.out x f⟩, ⟨Kd.R_far (p := ⟨go, x.toNat, none⟩) HS2.out (fun k hk => hk.2.1) _⟩⟩
                    · have c8b : decide (j < s2.stack.length - a) = false := decide_eq_false c8
                      rw [drop_end _ _ _ c8] at has
                      simp only [assignT] at has
                      obtain rfl := Option.some.inj has
                      clear has
                      obtain ⟨gs2, cq, ht1, ht2, ht3, ht4, ht5⟩ := HV.out.stk hp
                      have ct1 := cell_of_one ht1
                      have ct2 := free_of_one ht1
                      have HT := Aside0.mk ht2
                      have HE := Aside0.mk (HV.out.setS NE.out (Kd.R_take (m := a) ht2 (by show a ≤ s2.stack.length; omega)))
                      clear ht1 ht2 ht5
                      have hta : a ≤ s2.stack.length := by omega
                      have htb : a ≤ cq := Nat.le_trans hta ht3
                      go_wp2
                      go_end0
                      exact ⟨rfl, HE.out⟩
            · obtain ⟨y, hy⟩ : ∃ y, y = rd s2.stack (gk : Int) := ⟨_, rfl⟩
              rw [← hy] at hx
              have c4b : (y == v) = false := beq_eq_false_iff_ne.mpr (by rw [hy]; exact c4)
              clear hy
              cases gk with
              | zero => simp only [downT] at hd; rw [if_neg c4] at hd; cases hd
              | succ m =>
                simp only [downT] at hd
                rw [if_neg c4] at hd
                have HD2 := Aside0.mk hd
                clear hd HD c4
                go_wp2
                go_roundg m
                case measure => omega
                case rel => exact ⟨by go_num, HD2, ⟨by omega⟩, HV⟩
        · rw [if_neg c2] at H
          have c2b : (rd s2.low v == rd s2.index v) = false := beq_eq_false_iff_ne.mpr c2
          have c2c : (rd s2.low v != rd s2.index v) = true := bne_iff_ne.mpr c2
          obtain rfl := Option.some.inj H
          clear H c2
          go_wp2
          go_quiet (fail)
          go_wp2
          rw [Exit.noGoto_ret]
          refine bodyPost_ret (results_none rfl _ _ _) rfl ?_
          exact ⟨rfl, HV.out.below (below_self _ _)⟩
def digraph_Components.l0 : Nat → List (List Int) → Int → TS → Option (List Int)
  | 0, _, _, _ => none
  | k + 1, g, v, s => if v < (g.length : Int) then (if 0 ≤ v then (if rd s.index v = 0 then ((searchT k g v s).bind fun s2 => digraph_Components.l0 k g (wrap64 (v + 1)) s2) else digraph_Components.l0 k g (wrap64 (v + 1)) s) else none) else some s.out
def digraph_Components.f (k : Nat) (l0 : List (List Int)) : Option (List Int) := if l0.length ≤ 35184372088832 then digraph_Components.l0 k l0 0 { next := 0, index := List.replicate l0.length 0, low := List.replicate l0.length 0, out := List.replicate l0.length 0, stack := [] } else none
theorem searchT.mono_l : ∀ k, (∀ y0 y1 y2, LeO (searchT k y0 y1 y2) (searchT (k + 1) y0 y1 y2)) ∧ (∀ y0 y1 y2 y3 y4, LeO (loopT k y0 y1 y2 y3 y4) (loopT (k + 1) y0 y1 y2 y3 y4))
  | 0 => ⟨fun _ _ _ r h => by simp [searchT] at h, fun _ _ _ _ _ r h => by simp [loopT] at h⟩
  | k + 1 => by
    obtain ⟨ih0, ih1⟩ := searchT.mono_l k
    refine ⟨?_, ?_⟩
    · intro y0 y1 y2
      unfold searchT
      repeat' first | exact ih1 _ _ _ _ _ | exact LeO.none _ | refine LeO.ite ?_ ?_
    · intro y0 y1 y2 y3 y4
      unfold loopT
      repeat' first | exact ih1 _ _ _ _ _ | exact LeO.refl _ | exact LeO.none _ | refine LeO.ite ?_ ?_ | refine LeO.bind (ih0 _ _ _) (fun _ => ?_)
theorem digraph_Components.mono_l : ∀ k, ∀ y0 y1 y2, LeO (digraph_Components.l0 k y0 y1 y2) (digraph_Components.l0 (k + 1) y0 y1 y2)
  | 0 => fun _ _ _ r h => by simp [digraph_Components.l0] at h
  | k + 1 => by
    have ih := digraph_Components.mono_l k
    intro y0 y1 y2
    unfold digraph_Components.l0
    repeat' first | exact ih _ _ _ | exact LeO.refl _ | exact LeO.none _ | refine LeO.ite ?_ ?_ | refine LeO.bind ((searchT.mono_l k).1 _ _ _) (fun _ => ?_)
theorem digraph_Components.mono : ∀ a0 k, LeO (digraph_Components.f k a0) (digraph_Components.f (k + 1) a0) := by
  intro a0 k
  unfold digraph_Components.f
  exact LeO.ite (digraph_Components.mono_l k _ _ _) (LeO.none _)
theorem CInv.start {w w1 w2 w3 : World} {A0 : Option Addr} {c0 gi gl go ci cl co : Nat} {g : List (List Int)} (HG3 : w3.heap[w.heap.size]? = some (.cells #[.slice A0 g.length c0] 22 (0, 0))) (HBo : w3.heap[w1.heap.size]? = some (.cells #[.slice (some ⟨go, 0, none⟩) g.length co] 26 (0, 0))) (HBi : w3.heap[w2.heap.size]? = some (.cells #[.slice (some ⟨gi, 0, none⟩) g.length ci] 26 (0, 0)))
    (HO : Kd.R (Kd.int .i64) 3 w3 w.heap.size (fun k => k = go) (.slice (some ⟨go, 0, none⟩) g.length co) (List.replicate g.length 0)) (HI : Kd.R (Kd.int .i64) 3 w3 w.heap.size (fun k => k = gi) (.slice (some ⟨gi, 0, none⟩) g.length ci) (List.replicate g.length 0)) (HL : Kd.R (Kd.int .i64) 3 w3 w.heap.size (fun k => k = gl) (.slice (some ⟨gl, 0, none⟩) g.length cl) (List.replicate g.length 0))
    (HB : Below w.heap.size w w3) {F : Value} (hF : F = .func (.func 31) #[] #[.pointer (some ⟨w3.heap.size + 1 + 1, 0, none⟩), .pointer (some ⟨w2.heap.size, 0, none⟩), .pointer (some ⟨w3.heap.size, 0, none⟩), .pointer (some ⟨w1.heap.size, 0, none⟩), .pointer (some ⟨w3.heap.size + 1, 0, none⟩), .pointer (some ⟨w.heap.size, 0, none⟩), .pointer (some ⟨w3.heap.size + 1 + 1 + 1, 0, none⟩)]) :
    CInv w ((((w3.alloc (.cells #[.slice (some ⟨gl, 0, none⟩) g.length cl] 26)).alloc (.cells #[.slice none 0 0] 26)).alloc (.cells #[.int .i64 0] 3)).alloc (.cells #[F] 41)) (w3.heap.size + 1 + 1) w2.heap.size w3.heap.size w1.heap.size (w3.heap.size + 1) w.heap.size (w3.heap.size + 1 + 1 + 1) gi gl go ci cl co A0 c0 g { next := 0, index := List.replicate g.length 0, low := List.replicate g.length 0, out := List.replicate g.length 0, stack := [] } := by
  have s1 := Stays.alloc w3 (.cells #[.slice (some ⟨gl, 0, none⟩) g.length cl] 26)
  have z1 : (w3.alloc (.cells #[.slice (some ⟨gl, 0, none⟩) g.length cl] 26)).heap.size = w3.heap.size + 1 := by simp
  have n1 := alloc_new w3 (.cells #[.slice (some ⟨gl, 0, none⟩) g.length cl] 26)
  have b1 := below_alloc HB (.cells #[.slice (some ⟨gl, 0, none⟩) g.length cl] 26)
  generalize w3.alloc (.cells #[.slice (some ⟨gl, 0, none⟩) g.length cl] 26) = x1 at s1 z1 n1 b1 ⊢
  have s2 := Stays.alloc x1 (.cells #[.slice none 0 0] 26)
  have z2 : (x1.alloc (.cells #[.slice none 0 0] 26)).heap.size = w3.heap.size + 1 + 1 := by simp [z1]
  have n2 := alloc_new x1 (.cells #[.slice none 0 0] 26)
  have b2 := below_alloc b1 (.cells #[.slice none 0 0] 26)
  generalize x1.alloc (.cells #[.slice none 0 0] 26) = x2 at s2 z2 n2 b2 ⊢
  have s3 := Stays.alloc x2 (.cells #[.int .i64 0] 3)
  have z3 : (x2.alloc (.cells #[.int .i64 0] 3)).heap.size = w3.heap.size + 1 + 1 + 1 := by simp [z2]
  have n3 := alloc_new x2 (.cells #[.int .i64 0] 3)
  have b3 := below_alloc b2 (.cells #[.int .i64 0] 3)
  generalize x2.alloc (.cells #[.int .i64 0] 3) = x3 at s3 z3 n3 b3 ⊢
  have s4 := Stays.alloc x3 (.cells #[F] 41)
  have n4 := alloc_new x3 (.cells #[F] 41)
  have b4 := below_alloc b3 (.cells #[F] 41)
  generalize x3.alloc (.cells #[F] 41) = x4 at s4 n4 b4 ⊢
  rw [z1] at n2
  rw [z2] at n3
  rw [z3] at n4
  rw [hF] at n4
  have s := ((s1.trans s2).trans s3).trans s4
  exact ⟨s4.blk n3, s.blk HBi, ((s2.trans s3).trans s4).blk n1, s.blk HBo, ⟨_, (s3.trans s4).blk n2, Kd.R_nil _ _ _ _ _⟩, s.blk HG3, n4, s.R HI, s.R HL, s.R HO, b4⟩

set_option maxHeartbeats 2000000 in
set_option maxRecDepth 100000 in
theorem digraph_Components.calls (k : Nat) (A0 : Option Addr) (c0 : Nat) (l0 : List (List Int)) (r : List Int) (w : World) (hr0 : Kd.C (Kd.slice 3 (Kd.int .i64)) w A0 l0.length l0) (hc0 : l0.length ≤ c0) (h : digraph_Components.f k l0 = some r) :
    Calls Try.prog 13 #[.slice A0 l0.length c0] w fun e w' => ∃ v0_ : Value, e = .returned (v0_) ∧ Kd.R (Kd.int .i64) 3 w' w.heap.size (fun _ => True) v0_ r ∧ Below w.heap.size w w' := by
  have HR0 := Aside0.mk hr0
  have HC0 := Aside0.mk hc0
  clear hr0 hc0
  unfold digraph_Components.f at h
  by_cases c2 : l0.length ≤ 35184372088832
  case neg => rw [if_neg c2] at h; cases h
  rw [if_pos c2] at h
  have H := Aside0.mk h
  clear h
  have hl0 : (0 : Int) ≤ (l0.length : Int) := by omega
  have hl1 : (l0.length : Int).toNat * 8 ≤ 281474976710656 := by omega
  have HG := Aside0.mk (alloc_new w (.cells #[.slice A0 l0.length c0] 22))
  have hmf : ∀ (fn : Fn) (first cap : Array Value) (w : World), (Instr.makeFunc fn first cap).run Try.prog w = .ok (.func fn first cap) w := fun _ _ _ _ => rfl
  go_enter Try.func13, Try.ntmps13
  go_wp2_with (first
    | ((with_reducible refine gate_dst (N := 12) rfl ?_); refine Kd.R_make (w0 := w) (Kd.int .i64) w.heap.size 3 rfl (N := 12) rfl 26 _ _ rfl (l0.length : Int) rfl rfl Try.underlying26 (.int .i64 0) 8 info3 rfl (by decide) (by omega) 0 (ok := fun _ => True) (okp := fun _ => True) rfl (fun _ hk => hk) trivial hl0 hl1 (below_alloc (Below.refl _ _) _) (by simp) ?_; intro v1 w1 ho hb hg hnew; rw [Int.toNat_natCast] at ho; obtain ⟨go, co, e2, no1, no2, ho2⟩ := made_row ho hnew; rw [List.length_replicate] at e2 ho2; subst e2; have HB1 := Aside0.mk hb; have HO := Aside0.mk ho2; have HG1 := Aside0.mk ((Stays.grown hg).blk HG.out); have cg1 := cell_of_one ((Stays.alloc w1 (.cells #[.slice (some ⟨go, 0, none⟩) l0.length co] 26)).blk HG1.out); have bz1 := hb.size; clear ho hb hg hnew ho2)
    | ((with_reducible refine gate_dst (N := 15) rfl ?_); refine Kd.R_make (w0 := w) (Kd.int .i64) w.heap.size 3 rfl (N := 15) rfl 26 _ _ rfl (l0.length : Int) rfl rfl Try.underlying26 (.int .i64 0) 8 info3 rfl (by decide) (by omega) 0 (ok := fun _ => True) (okp := fun _ => True) rfl (fun _ hk => hk) trivial hl0 hl1 (below_alloc HB1.out _) (by simp; omega) ?_; intro v2 w2 ho hb hg hnew; rw [Int.toNat_natCast] at ho; obtain ⟨gi, ci, e2, ni1, ni2, ho2⟩ := made_row ho hnew; rw [List.length_replicate] at e2 ho2; subst e2; have HB2 := Aside0.mk hb; have HI := Aside0.mk ho2; have S2 := Aside0.mk ((Stays.alloc w1 (.cells #[.slice (some ⟨go, 0, none⟩) l0.length co] 26)).trans (Stays.grown hg)); have HBo := Aside0.mk ((Stays.grown hg).blk (alloc_new w1 (.cells #[.slice (some ⟨go, 0, none⟩) l0.length co] 26))); have HG2 := Aside0.mk (S2.out.blk HG1.out); have cg2 := cell_of_one ((Stays.alloc w2 (.cells #[.slice (some ⟨gi, 0, none⟩) l0.length ci] 26)).blk HG2.out); have bz2 := hb.size; clear ho hb hg hnew ho2)
    | ((with_reducible refine gate_dst (N := 18) rfl ?_); refine Kd.R_make (w0 := w) (Kd.int .i64) w.heap.size 3 rfl (N := 18) rfl 26 _ _ rfl (l0.length : Int) rfl rfl Try.underlying26 (.int .i64 0) 8 info3 rfl (by decide) (by omega) 0 (ok := fun _ => True) (okp := fun _ => True) rfl (fun _ hk => hk) trivial hl0 hl1 (below_alloc HB2.out _) (by simp; omega) ?_; intro v3 w3 ho hb hg hnew; rw [Int.toNat_natCast] at ho; obtain ⟨gl, cl, e2, nl1, nl2, ho2⟩ := made_row ho hnew; rw [List.length_replicate] at e2 ho2; subst e2; have HB3 := Aside0.mk hb; have HL := Aside0.mk ho2; have S3 := Aside0.mk ((Stays.alloc w2 (.cells #[.slice (some ⟨gi, 0, none⟩) l0.length ci] 26)).trans (Stays.grown hg)); have HBi := Aside0.mk ((Stays.grown hg).blk (alloc_new w2 (.cells #[.slice (some ⟨gi, 0, none⟩) l0.length ci] 26))); have bz3 := hb.size; have HV := Aside0.mk (CInv.start (S3.out.blk HG2.out) (S3.out.blk HBo.out) HBi.out (S3.out.R (S2.out.R HO.out)) (S3.out.R HI.out) HL.out hb rfl); have cg3 := cell_of_one HV.out.hg; have NE := Aside0.mk (show CNe w.heap.size (w3.heap.size + 1 + 1) w2.heap.size w3.heap.size w1.heap.size (w3.heap.size + 1) gi gl go by have := S2.out.1; have := S3.out.1; simp at *; constructor <;> omega); clear ho hb hg hnew ho2))
  go_loopg [22] k (fun kq v22 w' => ∃ (i : Int) (s : TS), v22 = .int .i64 i ∧ Aside0 (digraph_Components.l0 kq l0 i s = some r) ∧ Aside0 (kq ≤ k) ∧ Aside0 (CInv w w' (w3.heap.size + 1 + 1) w2.heap.size w3.heap.size w1.heap.size (w3.heap.size + 1) w.heap.size (w3.heap.size + 1 + 1 + 1) gi gl go ci cl co A0 c0 l0 s))
  case atStart => exact ⟨0, _, rfl, H, ⟨Nat.le_refl _⟩, HV⟩
  case round =>
    clear H HV cg1 cg2 cg3
    obtain ⟨i, s, rfl, HA, HK, HV⟩ := hrel
    cases gk with
    | zero => exact absurd HA.out (by simp [digraph_Components.l0])
    | succ k1 =>
    have H := HA.out
    clear HA
    simp only [digraph_Components.l0] at H
    by_cases c3 : i < (l0.length : Int)
    · rw [if_pos c3] at H
      have c3b : decide (i < (l0.length : Int)) = true := decide_eq_true c3
      by_cases c4 : 0 ≤ i
      case neg => rw [if_neg c4] at H; cases H
      rw [if_pos c4] at H
      rw [show wrap64 (i + 1) = i + 1 by unfold wrap64; omega] at H
      have ci1 := cell_of_one HV.out.hi
      obtain ⟨x1, f1⟩ := (HV.out.cells i c4 c3).1
      by_cases c5 : rd s.index i = 0
      · rw [if_pos c5] at H
        obtain ⟨s2, h1, h2⟩ := Option.bind_eq_some_iff.mp H
        have HS := Aside0.mk h1
        have H' := Aside0.mk h2
        have cf := cell_of_one HV.out.hf
        rw [c5] at x1
        clear H h1 h2 c5
        go_wp2_with (first | (go_at_call 31; refine (search_any w _ _ _ _ _ _ _ _ _ _ _ _ _ _ _ _ HR0.out HC0.out NE.out k1 _ s s2 i HV.out HS.out).mono ?_; rintro e w4 ⟨rfl, hv3⟩; have HV3 := Aside0.mk hv3; clear hv3))
        go_roundg k1
        case measure => have := HK.out; omega
        case rel => exact ⟨_, _, rfl, H', ⟨by have := HK.out; omega⟩, HV3⟩
      · rw [if_neg c5] at H
        have c5b : (rd s.index i == 0) = false := beq_eq_false_iff_ne.mpr c5
        have H' := Aside0.mk H
        clear H c5
        go_wp2
        go_roundg k1
        case measure => have := HK.out; omega
        case rel => exact ⟨_, _, rfl, H', ⟨by have := HK.out; omega⟩, HV⟩
    · rw [if_neg c3] at H
      have c3b : decide (i < (l0.length : Int)) = false := decide_eq_false c3
      obtain rfl := Option.some.inj H
      have co1 := cell_of_one HV.out.ho
      clear H
      go_wp2
      go_ret
      exact ⟨_, rfl, Kd.R_mono HV.out.ro (fun _ _ => trivial), HV.out.B⟩

end Go.Proofs.Ytcljocmblplhcaa.P
