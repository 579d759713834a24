-- LAID BY OUR PROGRAM OVER THE PRINT (xprint.py, part.py): Lean checks it.
import Derived.Test.YtnoebjmhimehcaaPx0
import Derived.Test.YtnoebjmhimehcaaPx1
import Derived.Test.YtnoebjmhimehcaaPx2
import Derived.Test.YtnoebjmhimehcaaPx3
import Derived.Test.YtnoebjmhimehcaaPx4
import Derived.BigRegion
import Derived.Laws.EntriesVeiled
import Derived.RegionTactic
namespace Go.Proofs.Ytnoebjmhimehcaa.P
open Go.RowKit Go.Proofs.YtnoebjmhimehcaaW.PrintWords Go.Proofs.YtnoebjmhimehcaaW.PrintLast Go.Proofs.YtnoebjmhimehcaaW.PrintMore
attribute [local go_sem] max2_int min2_int max_two min_two max_three min_three max_four min_four   -- for this text's walks alone
set_option linter.unusedVariables false
set_option linter.unusedSimpArgs false

/-! ### digraph_Components: function 54 -/
-- IMPORTS Derived.RegionTactic,Derived.BigRegion,Derived.Laws.EntriesVeiled
/-- What the search keeps. -/
structure TS where
 next : Int
 index : List Int
 low : List Int
 out : List Int
 stack : List Int

structure CNe (base Bn Bi Bl Bo Bs gi gl go : Nat) : Prop where
 h1 : gi ≠ gl
 h2 : gi ≠ go
 h3 : gl ≠ go
 h4 : Bn ≠ gi
 h5 : Bn ≠ gl
 h6 : Bn ≠ go
 h7 : Bi ≠ Bl
 h8 : Bi ≠ Bo
 h9 : Bi ≠ Bs
 bz : Bl ≠ Bo
 h11 : Bl ≠ Bs
 h12 : Bo ≠ Bs
 b1 : base ≤ Bn
 b2 : base ≤ Bs
 b3 : base ≤ gi
 b4 : base ≤ gl
 b5 : base ≤ go
structure CInv (w0 w : World) (Bn Bi Bl Bo Bs Bg Bf gi gl go ci cl co : Nat) (A0 : Option Addr) (c0 : Nat) (g : List (List Int)) (s : TS) : Prop where
 hn : w.heap[Bn]? = some (.cells #[.int .i64 s.next] 3 (0, 0))
 hi : w.heap[Bi]? = some (.cells #[.slice (some ⟨gi, 0, none⟩) g.length ci] 39 (0, 0))
 hl : w.heap[Bl]? = some (.cells #[.slice (some ⟨gl, 0, none⟩) g.length cl] 39 (0, 0))
 ho : w.heap[Bo]? = some (.cells #[.slice (some ⟨go, 0, none⟩) g.length co] 39 (0, 0))
 hs : ∃ vs, w.heap[Bs]? = some (.cells #[vs] 39 (0, 0)) ∧ Kd.R (Kd.int .i64) 3 w w0.heap.size (fun k => (k ≠ gi ∧ k ≠ gl) ∧ k ≠ go ∧ k ≠ Bn) vs s.stack
 hg : w.heap[Bg]? = some (.cells #[.slice A0 g.length c0] 72 (0, 0))
 hf : w.heap[Bf]? = some (.cells #[.func (.func 72) #[] #[.pointer (some ⟨Bn, 0, none⟩), .pointer (some ⟨Bi, 0, none⟩), .pointer (some ⟨Bl, 0, none⟩), .pointer (some ⟨Bo, 0, none⟩), .pointer (some ⟨Bs, 0, none⟩), .pointer (some ⟨Bg, 0, none⟩), .pointer (some ⟨Bf, 0, none⟩)]] 84 (0, 0))
 ri : Kd.R (Kd.int .i64) 3 w w0.heap.size (fun k => k = gi) (.slice (some ⟨gi, 0, none⟩) g.length ci) s.index
 rl : Kd.R (Kd.int .i64) 3 w w0.heap.size (fun k => k = gl) (.slice (some ⟨gl, 0, none⟩) g.length cl) s.low
 ro : Kd.R (Kd.int .i64) 3 w w0.heap.size (fun k => k = go) (.slice (some ⟨go, 0, none⟩) g.length co) s.out
 B : Below w0.heap.size w0 w
section
variable {w0 w w1 : World} {Bn Bi Bl Bo Bs Bg Bf gi gl go ci cl co : Nat} {A0 : Option Addr} {c0 : Nat} {g : List (List Int)} {s : TS}
theorem CInv.below (h : CInv w0 w Bn Bi Bl Bo Bs Bg Bf gi gl go ci cl co A0 c0 g s) (hb : Below w.heap.size w w1) : CInv w0 w1 Bn Bi Bl Bo Bs Bg Bf gi gl go ci cl co A0 c0 g s := by
 obtain ⟨hn, hi, hl, ho, ⟨vs, h1, h2⟩, hg, hf, ri, rl, ro, B⟩ := h
 exact ⟨blk_below hn hb, blk_below hi hb, blk_below hl hb, blk_below ho hb, ⟨vs, blk_below h1 hb, Kd.R_below h2 hb⟩, blk_below hg hb, blk_below hf hb, Kd.R_below ri hb, Kd.R_below rl hb, Kd.R_below ro hb, B.trans (hb.mono B.size)⟩
theorem CInv.setI (h : CInv w0 w Bn Bi Bl Bo Bs Bg Bf gi gl go ci cl co A0 c0 g s) (ne : CNe w0.heap.size Bn Bi Bl Bo Bs gi gl go) (v x : Int) : CInv w0 (w.setCell ⟨gi, v.toNat, none⟩ (.int .i64 x)) Bn Bi Bl Bo Bs Bg Bf gi gl go ci cl co A0 c0 g { s with index := s.index.set v.toNat x } := by
 obtain ⟨hn, hi, hl, ho, ⟨vs, h1, h2⟩, hg, hf, ri, rl, ro, B⟩ := h
 obtain ⟨cells, hb⟩ := R_blk ri
 exact ⟨blk_over hn ne.h4 _, blk_over hi (blk_apart hi hb (by decide)) _, blk_over hl (blk_apart hl hb (by decide)) _, blk_over ho (blk_apart ho hb (by decide)) _, ⟨vs, blk_over h1 (blk_apart h1 hb (by decide)) _, Kd.R_far (p := ⟨gi, v.toNat, none⟩) h2 (fun k hk => hk.1.1) _⟩, blk_over hg (blk_apart hg hb (by decide)) _, blk_over hf (blk_apart hf hb (by decide)) _,
   (Kd.R_putg ri v x).1, Kd.R_far (p := ⟨gi, v.toNat, none⟩) rl (fun k hk => by rw [hk]; exact ne.h1.symm) _, Kd.R_far (p := ⟨gi, v.toNat, none⟩) ro (fun k hk => by rw [hk]; exact ne.h2.symm) _, below_set B ne.b3⟩
theorem CInv.setL (h : CInv w0 w Bn Bi Bl Bo Bs Bg Bf gi gl go ci cl co A0 c0 g s) (ne : CNe w0.heap.size Bn Bi Bl Bo Bs gi gl go) (v x : Int) : CInv w0 (w.setCell ⟨gl, v.toNat, none⟩ (.int .i64 x)) Bn Bi Bl Bo Bs Bg Bf gi gl go ci cl co A0 c0 g { s with low := s.low.set v.toNat x } := by
 obtain ⟨hn, hi, hl, ho, ⟨vs, h1, h2⟩, hg, hf, ri, rl, ro, B⟩ := h
 obtain ⟨cells, hb⟩ := R_blk rl
 exact ⟨blk_over hn ne.h5 _, blk_over hi (blk_apart hi hb (by decide)) _, blk_over hl (blk_apart hl hb (by decide)) _, blk_over ho (blk_apart ho hb (by decide)) _, ⟨vs, blk_over h1 (blk_apart h1 hb (by decide)) _, Kd.R_far (p := ⟨gl, v.toNat, none⟩) h2 (fun k hk => hk.1.2) _⟩, blk_over hg (blk_apart hg hb (by decide)) _, blk_over hf (blk_apart hf hb (by decide)) _,
   Kd.R_far (p := ⟨gl, v.toNat, none⟩) ri (fun k hk => by rw [hk]; exact ne.h1) _, (Kd.R_putg rl v x).1, Kd.R_far (p := ⟨gl, v.toNat, none⟩) ro (fun k hk => by rw [hk]; exact ne.h3.symm) _, below_set B ne.b4⟩
theorem CInv.setO (h : CInv w0 w Bn Bi Bl Bo Bs Bg Bf gi gl go ci cl co A0 c0 g s) (ne : CNe w0.heap.size Bn Bi Bl Bo Bs gi gl go) (v x : Int) : CInv w0 (w.setCell ⟨go, v.toNat, none⟩ (.int .i64 x)) Bn Bi Bl Bo Bs Bg Bf gi gl go ci cl co A0 c0 g { s with out := s.out.set v.toNat x } := by
 obtain ⟨hn, hi, hl, ho, ⟨vs, h1, h2⟩, hg, hf, ri, rl, ro, B⟩ := h
 obtain ⟨cells, hb⟩ := R_blk ro
 exact ⟨blk_over hn ne.h6 _, blk_over hi (blk_apart hi hb (by decide)) _, blk_over hl (blk_apart hl hb (by decide)) _, blk_over ho (blk_apart ho hb (by decide)) _, ⟨vs, blk_over h1 (blk_apart h1 hb (by decide)) _, Kd.R_far (p := ⟨go, v.toNat, none⟩) h2 (fun k hk => hk.2.1) _⟩, blk_over hg (blk_apart hg hb (by decide)) _, blk_over hf (blk_apart hf hb (by decide)) _,
   Kd.R_far (p := ⟨go, v.toNat, none⟩) ri (fun k hk => by rw [hk]; exact ne.h2) _, Kd.R_far (p := ⟨go, v.toNat, none⟩) rl (fun k hk => by rw [hk]; exact ne.h3) _, (Kd.R_putg ro v x).1, below_set B ne.b5⟩
theorem CInv.setN (h : CInv w0 w Bn Bi Bl Bo Bs Bg Bf gi gl go ci cl co A0 c0 g s) (ne : CNe w0.heap.size Bn Bi Bl Bo Bs gi gl go) (x : Int) : CInv w0 (w.setCell ⟨Bn, 0, none⟩ (.int .i64 x)) Bn Bi Bl Bo Bs Bg Bf gi gl go ci cl co A0 c0 g { s with next := x } := by
 obtain ⟨hn, hi, hl, ho, ⟨vs, h1, h2⟩, hg, hf, ri, rl, ro, B⟩ := h
 exact ⟨one_setCell hn, blk_over hi (blk_apart hi hn (by decide)) _, blk_over hl (blk_apart hl hn (by decide)) _, blk_over ho (blk_apart ho hn (by decide)) _, ⟨vs, blk_over h1 (blk_apart h1 hn (by decide)) _, Kd.R_far (p := ⟨Bn, 0, none⟩) h2 (fun k hk => hk.2.2) _⟩, blk_over hg (blk_apart hg hn (by decide)) _, blk_over hf (blk_apart hf hn (by decide)) _,
   Kd.R_far (p := ⟨Bn, 0, none⟩) ri (fun k hk => by rw [hk]; exact ne.h4.symm) _, Kd.R_far (p := ⟨Bn, 0, none⟩) rl (fun k hk => by rw [hk]; exact ne.h5.symm) _, Kd.R_far (p := ⟨Bn, 0, none⟩) ro (fun k hk => by rw [hk]; exact ne.h6.symm) _, below_set B ne.b1⟩
/-- The stack's variable gets a row (already there in the world). -/
theorem CInv.setS {v1 : Value} {st : List Int} (h : CInv w0 w Bn Bi Bl Bo Bs Bg Bf gi gl go ci cl co A0 c0 g s) (ne : CNe w0.heap.size Bn Bi Bl Bo Bs gi gl go) (h1 : Kd.R (Kd.int .i64) 3 w w0.heap.size (fun k => (k ≠ gi ∧ k ≠ gl) ∧ k ≠ go ∧ k ≠ Bn) v1 st) : CInv w0 (w.setCell ⟨Bs, 0, none⟩ v1) Bn Bi Bl Bo Bs Bg Bf gi gl go ci cl co A0 c0 g { s with stack := st } := by
 obtain ⟨hn, hi, hl, ho, ⟨vs, hs, h2⟩, hg, hf, ri, rl, ro, B⟩ := h
 exact ⟨blk_over hn (blk_apart hn hs (by decide)) _, blk_over hi ne.h9 _, blk_over hl ne.h11 _, blk_over ho ne.h12 _, ⟨v1, one_setCell hs, Kd.R_set h1 hs (by decide) _ _⟩, blk_over hg (blk_apart hg hs (by decide)) _, blk_over hf (blk_apart hf hs (by decide)) _, Kd.R_set ri hs (by decide) _ _, Kd.R_set rl hs (by decide) _ _, Kd.R_set ro hs (by decide) _ _, below_set B ne.b2⟩
/-- .. a row that has grown. -/
theorem CInv.push {v v1 : Value} {st : List Int} (h : CInv w0 w Bn Bi Bl Bo Bs Bg Bf gi gl go ci cl co A0 c0 g s) (ne : CNe w0.heap.size Bn Bi Bl Bo Bs gi gl go) (hT : Kd.R (Kd.int .i64) 3 w w0.heap.size (fun k => (k ≠ gi ∧ k ≠ gl) ∧ k ≠ go ∧ k ≠ Bn) v s.stack)
   (h1 : Kd.R (Kd.int .i64) 3 w1 w0.heap.size (fun k => (k ≠ gi ∧ k ≠ gl) ∧ k ≠ go ∧ k ≠ Bn) v1 st) (hb : Below w0.heap.size w0 w1) (hg : w.grownBy w1 v.ownBlock) :
   CInv w0 (w1.setCell ⟨Bs, 0, none⟩ v1) Bn Bi Bl Bo Bs Bg Bf gi gl go ci cl co A0 c0 g { s with stack := st } ∧ w1.cell? ⟨Bs, 0, none⟩ ≠ none ∧ w1.frozen? ⟨Bs, 0, none⟩ = false := by
 obtain ⟨hn, hi, hl, ho, ⟨vs, hs, h2⟩, hg', hf, ri, rl, ro, B⟩ := h
 have nb : ∀ b o, w.heap[b]? = some o → (∀ k, ((k ≠ gi ∧ k ≠ gl) ∧ k ≠ go ∧ k ≠ Bn) → k ≠ b) → w1.heap[b]? = some o := fun b o hb' hk => (hg.block b (lt_of_block hb') (fun he => hk b (hT.1 b he.symm) rfl)).trans hb'
 have ty : ∀ k, v.ownBlock = some k → ∃ cells, w.heap[k]? = some (.cells cells 3 (0, 0)) := Kd.R_typed hT
 have e1 := grown_blk hs ty (by decide) hg
 have far : ∀ {b cap : Nat} {xs : List Int}, (∀ k, ((k ≠ gi ∧ k ≠ gl) ∧ k ≠ go ∧ k ≠ Bn) → k ≠ b) → Kd.R (Kd.int .i64) 3 w w0.heap.size (fun k => k = b) (.slice (some ⟨b, 0, none⟩) g.length cap) xs → Kd.R (Kd.int .i64) 3 w1 w0.heap.size (fun k => k = b) (.slice (some ⟨b, 0, none⟩) g.length cap) xs := fun hk hr => Kd.R_grown hr hg (fun k hkb he => hk k (hT.1 k he.symm) hkb)
 have X : CInv w0 w1 Bn Bi Bl Bo Bs Bg Bf gi gl go ci cl co A0 c0 g { s with stack := st } → True := fun _ => trivial
 refine ⟨⟨?_, ?_, ?_, ?_, ⟨v1, one_setCell e1, Kd.R_set h1 e1 (by decide) _ _⟩, ?_, ?_, ?_, ?_, ?_, below_set hb ne.b2⟩, by rw [cell_of_one e1]; simp, free_of_one e1⟩
 · have e := nb Bn _ hn (fun k hk => hk.2.2)
   exact blk_over e (blk_apart e e1 (by decide)) _
 · exact blk_over (grown_blk hi ty (by decide) hg) ne.h9 _
 · exact blk_over (grown_blk hl ty (by decide) hg) ne.h11 _
 · exact blk_over (grown_blk ho ty (by decide) hg) ne.h12 _
 · have e := grown_blk hg' ty (by decide) hg
   exact blk_over e (blk_apart e e1 (by decide)) _
 · have e := grown_blk hf ty (by decide) hg
   exact blk_over e (blk_apart e e1 (by decide)) _
 · exact Kd.R_set (far (fun k hk => hk.1.1) ri) e1 (by decide) _ _
 · exact Kd.R_set (far (fun k hk => hk.1.2) rl) e1 (by decide) _ _
 · exact Kd.R_set (far (fun k hk => hk.2.1) ro) e1 (by decide) _ _
end
/-! The search as plain functions. -/
def downT (st : List Int) (v : Int) : Nat → Option Nat
 | 0 => if rd st ((0 : Nat) : Int) = v then some 0 else none
 | n + 1 => if rd st ((n + 1 : Nat) : Int) = v then some (n + 1) else downT st v n
def assignT : List Int → List Int → Int → Option (List Int)
 | out, [], _ => some out
 | out, x :: xs, f => if 0 ≤ x then (if x < (out.length : Int) then assignT (out.set x.toNat f) xs f else none) else none
def finishT (v : Int) (s : TS) : Option TS :=
 if 0 < s.stack.length then (downT s.stack v (s.stack.length - 1)).bind fun a => (assignT s.out (s.stack.drop a) ((s.stack.drop a).foldl mn v)).bind fun o => some { s with out := o, stack := s.stack.take a } else none
mutual
def searchT : Nat → List (List Int) → Int → TS → Option TS
 | 0, _, _, _ => none
 | k + 1, g, v, s => if 0 ≤ v then (if v < (g.length : Int) then (if s.stack.length < 17592186044416 then
     loopT k g v (rd_L11 g v) 0 { next := wrap64 (s.next + 1), index := s.index.set v.toNat (wrap64 (s.next + 1)), low := s.low.set v.toNat (wrap64 (s.next + 1)), out := s.out.set v.toNat (-1), stack := s.stack ++ [v] } else none) else none) else none
def loopT : Nat → List (List Int) → Int → List Int → Int → TS → Option TS
 | 0, _, _, _, _, _ => none
 | k + 1, g, v, xs, i, s => if i < (xs.length : Int) then (if 0 ≤ i then
     (if 0 ≤ rd xs i ∧ rd xs i < (g.length : Int) then
       (if rd s.index (rd xs i) = 0 then ((searchT k g (rd xs i) s).bind fun s2 => loopT k g v xs (wrap64 (i + 1)) { s2 with low := s2.low.set v.toNat (mn (rd s2.low v) (rd s2.low (rd xs i))) })
        else if rd s.out (rd xs i) = -1 then loopT k g v xs (wrap64 (i + 1)) { s with low := s.low.set v.toNat (mn (rd s.low v) (rd s.index (rd xs i))) }
        else loopT k g v xs (wrap64 (i + 1)) s)
      else loopT k g v xs (wrap64 (i + 1)) s) else none)
   else if rd s.low v = rd s.index v then finishT v s else some s
end
section
variable {w0 w w1 : World} {Bn Bi Bl Bo Bs Bg Bf gi gl go ci cl co : Nat} {A0 : Option Addr} {c0 : Nat} {g : List (List Int)} {s : TS}
theorem CInv.stk (h : CInv w0 w Bn Bi Bl Bo Bs Bg Bf gi gl go ci cl co A0 c0 g s) (hp : 0 < s.stack.length) : ∃ gs cs, w.heap[Bs]? = some (.cells #[.slice (some ⟨gs, 0, none⟩) s.stack.length cs] 39 (0, 0)) ∧ Kd.R (Kd.int .i64) 3 w w0.heap.size (fun k => (k ≠ gi ∧ k ≠ gl) ∧ k ≠ go ∧ k ≠ Bn) (.slice (some ⟨gs, 0, none⟩) s.stack.length cs) s.stack ∧ s.stack.length ≤ cs ∧ (s.stack.length : Int) ≤ 9223372036854775807 ∧ ∀ i, i < s.stack.length → w.cell? ⟨gs, i, none⟩ = some (.int .i64 (rd s.stack (i : Int))) := by
 obtain ⟨vs, h1, h2⟩ := h.hs
 obtain ⟨gs, cs, rfl, _, _, _⟩ := Kd.R_form h2 hp
 obtain ⟨_, hc, hC⟩ := Kd.R_reads' h2
 exact ⟨gs, cs, h1, h2, hc, by have := hC.2.1; omega, fun i hi => by have := (Kd.R_celln (0 : Int) h2 (i : Int) (by omega) (by omega)).1; rwa [Int.toNat_natCast] at this⟩
theorem CInv.fresh (h : CInv w0 w Bn Bi Bl Bo Bs Bg Bf gi gl go ci cl co A0 c0 g s) (k : Nat) (hk : w.heap.size ≤ k) : (k ≠ gi ∧ k ≠ gl) ∧ k ≠ go ∧ k ≠ Bn := by
 obtain ⟨c1, h1⟩ := R_blk h.ri
 obtain ⟨c2, h2⟩ := R_blk h.rl
 obtain ⟨c3, h3⟩ := R_blk h.ro
 have := lt_of_block h1
 have := lt_of_block h2
 have := lt_of_block h3
 have := lt_of_block h.hn
 refine ⟨⟨?_, ?_⟩, ?_, ?_⟩ <;> omega
/-- What the walk reads of a row at a place. -/
theorem CInv.cells (h : CInv w0 w Bn Bi Bl Bo Bs Bg Bf gi gl go ci cl co A0 c0 g s) (x : Int) (h0 : 0 ≤ x) (h1 : x < (g.length : Int)) :
   (w.cell? ⟨gi, x.toNat, none⟩ = some (.int .i64 (rd s.index x)) ∧ w.frozen? ⟨gi, x.toNat, none⟩ = false) ∧ (w.cell? ⟨gl, x.toNat, none⟩ = some (.int .i64 (rd s.low x)) ∧ w.frozen? ⟨gl, x.toNat, none⟩ = false) ∧ (w.cell? ⟨go, x.toNat, none⟩ = some (.int .i64 (rd s.out x)) ∧ w.frozen? ⟨go, x.toNat, none⟩ = false) :=
 ⟨Kd.R_celln (0 : Int) h.ri x h0 h1, Kd.R_celln (0 : Int) h.rl x h0 h1, Kd.R_celln (0 : Int) h.ro x h0 h1⟩
end

set_option maxHeartbeats 2000000 in
set_option maxRecDepth 100000 in
theorem search_any (w0 : World) (Bn Bi Bl Bo Bs Bg Bf gi gl go ci cl co : Nat) (A0 : Option Addr) (c0 : Nat) (g : List (List Int)) (ap : Kd.C (Kd.slice 3 (Kd.int .i64)) w0 A0 g.length g) (hc0 : g.length ≤ c0) (ne : CNe w0.heap.size Bn Bi Bl Bo Bs gi gl go) (k : Nat) :
   ∀ (w : World) (s s' : TS) (v : Int), CInv w0 w Bn Bi Bl Bo Bs Bg Bf gi gl go ci cl co A0 c0 g s → searchT k g v s = some s' →
   Calls Try.prog 72 #[.int .i64 v, .pointer (some ⟨Bn, 0, none⟩), .pointer (some ⟨Bi, 0, none⟩), .pointer (some ⟨Bl, 0, none⟩), .pointer (some ⟨Bo, 0, none⟩), .pointer (some ⟨Bs, 0, none⟩), .pointer (some ⟨Bg, 0, none⟩), .pointer (some ⟨Bf, 0, none⟩)] w fun e w' => e = .returned (.tuple #[]) ∧ CInv w0 w' Bn Bi Bl Bo Bs Bg Bf gi gl go ci cl co A0 c0 g s' := by
 have av := Aside0.mk ap
 have aj := Aside0.mk hc0
 have NE := Aside0.mk ne
 clear ap hc0 ne
 induction k using Nat.strongRecOn with
 | _ k IH =>
 intro w s s' v h hs
 cases k with
 | zero => simp [searchT] at hs
 | succ k =>
 simp only [searchT] at hs
 by_cases ab : 0 ≤ v
 case neg => rw [if_neg ab] at hs; cases hs
 rw [if_pos ab] at hs
 by_cases ac : v < (g.length : Int)
 case neg => rw [if_neg ac] at hs; cases hs
 rw [if_pos ac] at hs
 by_cases hlim : s.stack.length < 17592186044416
 case neg => rw [if_neg hlim] at hs; cases hs
 rw [if_pos hlim] at hs
 have H := Aside0.mk hs
 have HV := Aside0.mk h
 have IHA := Aside0.mk IH
 have cn := cell_of_one h.hn
 have fn := free_of_one h.hn
 have ag := Aside0.mk (h.setN NE.out (wrap64 (s.next + 1)))
 clear hs h IH
 have ah := Aside0.mk (ag.out.setI NE.out v (wrap64 (s.next + 1)))
 have aa := Aside0.mk (ah.out.setL NE.out v (wrap64 (s.next + 1)))
 have aN := Aside0.mk (aa.out.setO NE.out v (-1))
 have al := cell_of_one ag.out.hi
 have ax := cell_of_one ag.out.hl
 have ay := cell_of_one ag.out.ho
 have bb := cell_of_one ag.out.hn
 have a8 := cell_of_one ah.out.hi
 have ba := cell_of_one ah.out.hl
 have bf := cell_of_one ah.out.ho
 have bc := cell_of_one ah.out.hn
 have a9 := cell_of_one aa.out.hi
 have aR := cell_of_one aa.out.hl
 have bg := cell_of_one aa.out.ho
 have bd := cell_of_one aa.out.hn
 obtain ⟨x1, f1⟩ := (ag.out.cells v ab ac).1
 obtain ⟨x2, f2⟩ := (ah.out.cells v ab ac).2.1
 obtain ⟨x3, f3⟩ := (aa.out.cells v ab ac).2.2
 go_enter Try.func72, Try.ntmps72
 go_step3
 go_upto_region 1 with (fail)
 go_cut [] (fun wc => Aside0 (CInv w0 wc Bn Bi Bl Bo Bs Bg Bf gi gl go ci cl co A0 c0 g { next := wrap64 (s.next + 1), index := s.index.set v.toNat (wrap64 (s.next + 1)), low := s.low.set v.toNat (wrap64 (s.next + 1)), out := s.out.set v.toNat (-1), stack := s.stack }))
 case first =>
   go_region
   go_wp2
   go_meet
   case rel => exact ⟨aN.out.below (below_drew (Below.refl _ _))⟩
 case rest =>
   clear HV ag ah aa aN al ax ay bb a8 ba bf bc a9 aR bg bd x1 f1 x2 f2 x3 f3 cn fn
   have HV := hcut
   clear hcut
   obtain ⟨vs, af, ai⟩ := HV.out.hs
   have ao := cell_of_one af
   have HS := Aside0.mk ai
   obtain ⟨ad, A3, c3, e3, aW, bB, aT⟩ := at_L11 av.out v ab ac
   subst e3
   have aQ := Aside0.mk aW
   have a4 := Aside0.mk aT
   clear af ai aW aT
   go_wp2_with (first
     | ((with_reducible refine gate_builtin (b := .append) (xs := #[.tmp 30, .tmp 32]) rfl ?_); at_builtin; refine Kd.R_append (Kd.int .i64) (w0 := w0) w0.heap.size rfl (.tmp 30) (.tmp 32) 39 3 (.int .i64 0) 8 rfl Try.underlying39 info3 rfl (by decide) (by omega) vs s.stack v [.int .i64 v] (fun k => (k ≠ gi ∧ k ≠ gl) ∧ k ≠ go ∧ k ≠ Bn) (fun _ => False) rfl rfl ?aP (fun _ hk => hk.elim) ?aF ?aO ?aB ?aS ?aL ?_; (case aP => exact rfl); (case aF => exact (fun k hk => HV.out.fresh k hk)); (case aO => exact HS.out); (case aB => exact HV.out.B); (case aS => exact HV.out.B.size); (case aL => omega); intro v2 w2 ho hb hg hat; obtain ⟨A2, k2, rfl⟩ := Kd.R_slice ho; have HP := Aside0.mk (CInv.push HV.out NE.out HS.out ho hb hg); obtain ⟨c2, bh⟩ := Option.ne_none_iff_exists'.mp HP.out.2.1; have hf2 := HP.out.2.2; clear ho hb hg hat; have aw := cell_of_one HP.out.1.hg; have aX := (HP.out.1.B.cell (World.block_lt_of_cell? w0 _ aQ.out)).trans aQ.out; simp only [List.length_append, List.length_singleton] at aw aX HP))
   go_loopg [39] k (fun kq bo w' => ∃ (i : Int) (s2 : TS), bo = .int .i64 i ∧ Aside0 (loopT kq g v (rd_L11 g v) i s2 = some s') ∧ Aside0 (kq ≤ k) ∧ Aside0 (CInv w0 w' Bn Bi Bl Bo Bs Bg Bf gi gl go ci cl co (some ad) c0 g s2))
   case atStart => exact ⟨0, _, rfl, H, ⟨Nat.le_refl _⟩, ⟨HP.out.1⟩⟩
   case round =>
     clear H HV HP HS aX aw bh hf2 ao
     obtain ⟨i, s2, rfl, HA, HK, HV⟩ := hrel
     cases gk with
     | zero => exact absurd HA.out (by simp [loopT])
     | succ k1 =>
     have H := HA.out
     clear HA
     simp only [loopT] at H
     have cg := cell_of_one HV.out.hg
     by_cases c1 : i < ((rd_L11 g v).length : Int)
     · rw [if_pos c1] at H
       have c1b : decide (i < ((rd_L11 g v).length : Int)) = true := decide_eq_true c1
       by_cases c2 : 0 ≤ i
       case neg => rw [if_neg c2] at H; cases H
       rw [if_pos c2] at H
       obtain ⟨bq, e4, az⟩ := Kd.at_int a4.out i c2 c1
       subst e4
       replace az := (HV.out.B.cell (World.block_lt_of_cell? w0 _ az)).trans az
       obtain ⟨x, hx⟩ : ∃ x, x = rd (rd_L11 g v) i := ⟨_, rfl⟩
       rw [← hx] at H az
       clear hx
       have HR := Aside0.mk (Kd.C_below av.out HV.out.B)
       by_cases c3 : 0 ≤ x ∧ x < (g.length : Int)
       · rw [if_pos c3] at H
         have HI := Aside0.mk (show digraph_inside.f g x = some true by unfold digraph_inside.f; rw [if_pos c3.1, decide_eq_true c3.2])
         obtain ⟨c3a, c3b⟩ := c3
         have al := cell_of_one HV.out.hi
         obtain ⟨x1, f1⟩ := (HV.out.cells x c3a c3b).1
         by_cases c4 : rd s2.index x = 0
         · rw [if_pos c4] at H
           rw [c4] at x1
           obtain ⟨s3, h3, h4⟩ := Option.bind_eq_some_iff.mp H
           have a5 := Aside0.mk h3
           have H' := Aside0.mk h4
           have cf := cell_of_one HV.out.hf
           clear H h3 h4 c4
           go_wp2_with (first
             | (go_at_call 73; refine (digraph_inside.calls _ _ _ _ _ _ HR.out aj.out HI.out).mono ?_; rintro e w2 ⟨rfl, ⟨n, rfl⟩⟩)
             | (go_at_call 72; refine (IHA.out k1 (by have := HK.out; omega) _ s2 s3 x (HV.out.below (below_self _ _)) a5.out).mono ?_; rintro e w3 ⟨rfl, ar⟩; have aa := Aside0.mk ar; clear ar; have aR := cell_of_one aa.out.hl; obtain ⟨y1, g1⟩ := (aa.out.cells v ab ac).2.1; obtain ⟨y2, g2⟩ := (aa.out.cells x c3a c3b).2.1))
           go_region
           go_wp2
           · have hm : mn (rd s3.low v) (rd s3.low x) = rd s3.low x := by unfold mn; split <;> omega
             rw [hm] at H'
             go_roundg k1
             case measure => have := HK.out; omega
             case rel => exact ⟨_, _, rfl, H', ⟨by have := HK.out; omega⟩, ⟨(aa.out.setL NE.out v _).below (below_drew (Below.refl _ _))⟩⟩
           · have hm : mn (rd s3.low v) (rd s3.low x) = rd s3.low v := by unfold mn; split <;> omega
             rw [hm] at H'
             go_roundg k1
             case measure => have := HK.out; omega
             case rel => exact ⟨_, _, rfl, H', ⟨by have := HK.out; omega⟩, ⟨(aa.out.setL NE.out v _).below (below_drew (Below.refl _ _))⟩⟩
         · rw [if_neg c4] at H
           have c4b : (rd s2.index x == 0) = false := beq_eq_false_iff_ne.mpr c4
           have ay := cell_of_one HV.out.ho
           obtain ⟨x2, f2⟩ := (HV.out.cells x c3a c3b).2.2
           by_cases c5 : rd s2.out x = -1
           · rw [if_pos c5] at H
             rw [c5] at x2
             have H' := Aside0.mk H
             clear H c4 c5
             have ax := cell_of_one HV.out.hl
             obtain ⟨y1, g1⟩ := (HV.out.cells v ab ac).2.1
             go_wp2_with (first | (go_at_call 73; refine (digraph_inside.calls _ _ _ _ _ _ HR.out aj.out HI.out).mono ?_; rintro e w2 ⟨rfl, ⟨n, rfl⟩⟩))
             go_region
             go_wp2
             · have hm : mn (rd s2.low v) (rd s2.index x) = rd s2.index x := by unfold mn; split <;> omega
               rw [hm] at H'
               go_roundg k1
               case measure => have := HK.out; omega
               case rel => exact ⟨_, _, rfl, H', ⟨by have := HK.out; omega⟩, ⟨(HV.out.below (below_self _ _)).setL NE.out v _⟩⟩
             · have hm : mn (rd s2.low v) (rd s2.index x) = rd s2.low v := by unfold mn; split <;> omega
               rw [hm] at H'
               go_roundg k1
               case measure => have := HK.out; omega
               case rel => exact ⟨_, _, rfl, H', ⟨by have := HK.out; omega⟩, ⟨(HV.out.below (below_self _ _)).setL NE.out v _⟩⟩
           · rw [if_neg c5] at H
             have c5b : (rd s2.out x == -1) = false := beq_eq_false_iff_ne.mpr c5
             have H' := Aside0.mk H
             clear H c4 c5
             go_wp2_with (first | (go_at_call 73; refine (digraph_inside.calls _ _ _ _ _ _ HR.out aj.out HI.out).mono ?_; rintro e w2 ⟨rfl, ⟨n, rfl⟩⟩))
             go_roundg k1
             case measure => have := HK.out; omega
             case rel => exact ⟨_, _, rfl, H', ⟨by have := HK.out; omega⟩, ⟨HV.out.below (below_self _ _)⟩⟩
       · rw [if_neg c3] at H
         have HI := Aside0.mk (show digraph_inside.f g x = some false by
           unfold digraph_inside.f
           by_cases h0 : 0 ≤ x
           · rw [if_pos h0, decide_eq_false (fun h1 => c3 ⟨h0, h1⟩)]
           · rw [if_neg h0])
         have H' := Aside0.mk H
         clear H c3
         go_wp2_with (first | (go_at_call 73; refine (digraph_inside.calls _ _ _ _ _ _ HR.out aj.out HI.out).mono ?_; rintro e w2 ⟨rfl, ⟨n, rfl⟩⟩))
         go_roundg k1
         case measure => have := HK.out; omega
         case rel => exact ⟨_, _, rfl, H', ⟨by have := HK.out; omega⟩, ⟨HV.out.below (below_self _ _)⟩⟩
     · rw [if_neg c1] at H
       have c1b : decide (i < ((rd_L11 g v).length : Int)) = false := decide_eq_false c1
       have ax := cell_of_one HV.out.hl
       have al := cell_of_one HV.out.hi
       obtain ⟨x1, f1⟩ := (HV.out.cells v ab ac).1
       obtain ⟨x2, f2⟩ := (HV.out.cells v ab ac).2.1
       by_cases c2 : rd s2.low v = rd s2.index v
       · rw [if_pos c2] at H
         have c2b : (rd s2.low v == rd s2.index v) = true := beq_iff_eq.mpr c2
         have c2c : (rd s2.low v != rd s2.index v) = false := bne_eq_false_iff_eq.mpr c2
         have H' := Aside0.mk H
         clear H c2
         go_wp2
         go_quiet (fail)
         go_upto_region 14 with (fail)
         clear ax al x1 f1 x2 f2 c2b c2c c1b cg
         have H := H'.out
         clear H'
         unfold finishT at H
         by_cases hp : 0 < s2.stack.length
         case neg => rw [if_neg hp] at H; cases H
         rw [if_pos hp] at H
         obtain ⟨a, hd, H⟩ := Option.bind_eq_some_iff.mp H
         obtain ⟨o, ha, H⟩ := Option.bind_eq_some_iff.mp H
         obtain rfl := Option.some.inj H
         obtain ⟨gs, cs, af, ai, aU, aV, aq⟩ := HV.out.stk hp
         have ao := cell_of_one af
         have HD := Aside0.mk hd
         have HA := Aside0.mk ha
         clear H af ai aq hd ha
         go_wp2
         go_step3
         go_wp2
         go_loopg [11] (s2.stack.length - 1) (fun kq bl w' => bl = .int .i64 (kq : Int) ∧ Aside0 (downT s2.stack v kq = some a) ∧ Aside0 (kq < s2.stack.length) ∧ Aside0 (CInv w0 w' Bn Bi Bl Bo Bs Bg Bf gi gl go ci cl co (some ad) c0 g s2))
         case atStart => exact ⟨by congr 1; omega, HD, ⟨by omega⟩, ⟨HV.out.below (below_self _ _)⟩⟩
         case round =>
           clear HD HV ao aU aV
           obtain ⟨rfl, HD, aK, HV⟩ := hrel
           obtain ⟨gs, cs, af, ai, aU, aV, aq⟩ := HV.out.stk hp
           have ao := cell_of_one af
           have hx := aq gk aK.out
           have bA := aK.out
           have aM := Aside0.mk aq
           have ak := Aside0.mk ai
           clear af ai aq
           have hd := HD.out
           by_cases c4 : rd s2.stack (gk : Int) = v
           · have c4b : (rd s2.stack (gk : Int) == v) = true := beq_iff_eq.mpr c4
             have e5 : a = gk := by
               cases gk with
               | zero => simp only [downT] at hd; rw [if_pos c4] at hd; exact (Option.some.inj hd).symm
               | succ m => simp only [downT] at hd; rw [if_pos c4] at hd; exact (Option.some.inj hd).symm
             subst e5
             have hac : decide (cs = a) = false := decide_eq_false (by omega)
             obtain ⟨wo, rfl⟩ : ∃ wo : World, wo = wr := ⟨_, rfl⟩
             clear hd HD c4
             go_wp2
             go_loopg [12, 110] (s2.stack.length - a) (fun kq bm aG w' => ∃ (f : Int) (j : Nat), bm = .int .i64 f ∧ aG = .int .i64 (j : Int) ∧ Aside0 (((s2.stack.drop a).drop j).foldl mn f = (s2.stack.drop a).foldl mn v) ∧ Aside0 (j ≤ s2.stack.length - a) ∧ Aside0 (kq = s2.stack.length - a - j) ∧ w' = wo)
             case atStart => exact ⟨v, 0, rfl, rfl, ⟨rfl⟩, ⟨Nat.zero_le _⟩, ⟨by omega⟩, rfl⟩
             case round =>
               obtain ⟨f, j, rfl, rfl, HF, HJ, HG, rfl⟩ := hrel
               have hj := HJ.out
               by_cases c6 : j < s2.stack.length - a
               · have c6b : decide (j < s2.stack.length - a) = true := decide_eq_true c6
                 have au := aM.out (a + j) (by omega)
                 have hf := HF.out
                 rw [drop_step _ _ _ c6] at hf
                 obtain ⟨x, ex⟩ : ∃ x, x = rd s2.stack ((a + j : Nat) : Int) := ⟨_, rfl⟩
                 rw [← ex] at hf au
                 rw [List.foldl_cons] at hf
                 clear ex HF
                 by_cases c7 : x < f
                 · rw [show mn f x = x by unfold mn; rw [if_pos c7]] at hf
                   have HF := Aside0.mk hf
                   clear hf
                   go_wp2
                   go_roundg (s2.stack.length - a - (j + 1))
                   case measure => have := HG.out; omega
                   case rel => exact ⟨x, j + 1, rfl, by go_num, HF, ⟨by omega⟩, ⟨rfl⟩, rfl⟩
                 · rw [show mn f x = f by unfold mn; rw [if_neg c7]] at hf
                   have HF := Aside0.mk hf
                   clear hf
                   go_wp2
                   go_roundg (s2.stack.length - a - (j + 1))
                   case measure => have := HG.out; omega
                   case rel => exact ⟨f, j + 1, rfl, by go_num, HF, ⟨by omega⟩, ⟨rfl⟩, rfl⟩
               · have c6b : decide (j < s2.stack.length - a) = false := decide_eq_false c6
                 have hf := HF.out
                 rw [drop_end _ _ _ c6] at hf
                 simp only [List.foldl_nil] at hf
                 have HAS := HA
                 rw [← hf] at HAS
                 clear HF hf HA
                 go_wp2
                 go_loopg [122] (s2.stack.length - a) (fun kq aH w' => ∃ (j : Nat) (ae : List Int), aH = .int .i64 (j : Int) ∧ Aside0 (assignT ae ((s2.stack.drop a).drop j) f = some o) ∧ Aside0 (j ≤ s2.stack.length - a) ∧ Aside0 (kq = s2.stack.length - a - j) ∧ Aside0 (CInv w0 w' Bn Bi Bl Bo Bs Bg Bf gi gl go ci cl co (some ad) c0 g { s2 with out := ae }) ∧ Aside0 (Kd.R (Kd.int .i64) 3 w' w0.heap.size (fun k => (k ≠ gi ∧ k ≠ gl) ∧ k ≠ go ∧ k ≠ Bn) (.slice (some ⟨gs, 0, none⟩) s2.stack.length cs) s2.stack))
                 case atStart => exact ⟨0, _, rfl, HAS, ⟨Nat.zero_le _⟩, ⟨by omega⟩, HV, ak⟩
                 case round =>
                   clear HAS HV ak aM ao hx
                   obtain ⟨j, ae, rfl, HAS, HJ, HG, HV, ak⟩ := hrel
                   have hj := HJ.out
                   have has := HAS.out
                   clear HAS
                   by_cases c8 : j < s2.stack.length - a
                   · have c8b : decide (j < s2.stack.length - a) = true := decide_eq_true c8
                     obtain ⟨au, _⟩ := Kd.R_celln (0 : Int) ak.out ((a + j : Nat) : Int) (by omega) (by omega)
                     rw [Int.toNat_natCast] at au
                     rw [drop_step _ _ _ c8] at has
                     obtain ⟨x, ex⟩ : ∃ x, x = rd s2.stack ((a + j : Nat) : Int) := ⟨_, rfl⟩
                     replace au : wr.cell? ⟨gs, a + j, none⟩ = some (.int .i64 x) := by rw [ex]; exact au
                     rw [← ex] at has
                     clear ex
                     simp only [assignT] at has
                     by_cases d0 : 0 ≤ x
                     case neg => rw [if_neg d0] at has; cases has
                     rw [if_pos d0] at has
                     by_cases d1 : x < (ae.length : Int)
                     case neg => rw [if_neg d1] at has; cases has
                     rw [if_pos d1] at has
                     rw [R_len HV.out.ro] at d1
                     have HAS := Aside0.mk has
                     have ay := cell_of_one HV.out.ho
                     obtain ⟨y1, y2⟩ := (HV.out.cells x d0 d1).2.2
                     clear has
                     go_wp2
                     go_roundg (s2.stack.length - a - (j + 1))
                     case measure => have := HG.out; omega
                     case rel => exact ⟨j + 1, _, by go_num, HAS, ⟨by omega⟩, ⟨rfl⟩, ⟨HV.out.setO NE.out x f⟩, ⟨Kd.R_far (p := ⟨go, x.toNat, none⟩) ak.out (fun k hk => hk.2.1) _⟩⟩
                   · have c8b : decide (j < s2.stack.length - a) = false := decide_eq_false c8
                     rw [drop_end _ _ _ c8] at has
                     simp only [assignT] at has
                     obtain rfl := Option.some.inj has
                     clear has
                     obtain ⟨bx, cq, aD, aE, bi, bC, bj⟩ := HV.out.stk hp
                     have bv := cell_of_one aD
                     have bw := free_of_one aD
                     have HT := Aside0.mk aE
                     have HE := Aside0.mk (HV.out.setS NE.out (Kd.R_take (m := a) aE (by show a ≤ s2.stack.length; omega)))
                     clear aD aE bj
                     have hta : a ≤ s2.stack.length := by omega
                     have htb : a ≤ cq := Nat.le_trans hta bi
                     go_wp2
                     go_end0
                     exact ⟨rfl, HE.out⟩
           · obtain ⟨y, hy⟩ : ∃ y, y = rd s2.stack (gk : Int) := ⟨_, rfl⟩
             rw [← hy] at hx
             have c4b : (y == v) = false := beq_eq_false_iff_ne.mpr (by rw [hy]; exact c4)
             clear hy
             cases gk with
             | zero => simp only [downT] at hd; rw [if_neg c4] at hd; cases hd
             | succ m =>
               simp only [downT] at hd
               rw [if_neg c4] at hd
               have a2 := Aside0.mk hd
               clear hd HD c4
               go_wp2
               go_roundg m
               case measure => omega
               case rel => exact ⟨by go_num, a2, ⟨by omega⟩, HV⟩
       · rw [if_neg c2] at H
         have c2b : (rd s2.low v == rd s2.index v) = false := beq_eq_false_iff_ne.mpr c2
         have c2c : (rd s2.low v != rd s2.index v) = true := bne_iff_ne.mpr c2
         obtain rfl := Option.some.inj H
         clear H c2
         go_wp2
         go_quiet (fail)
         go_wp2
         rw [Exit.noGoto_ret]
         refine bodyPost_ret (results_none rfl _ _ _) rfl ?_
         exact ⟨rfl, HV.out.below (below_self _ _)⟩
def digraph_Components.l0 : Nat → List (List Int) → Int → TS → Option (List Int)
 | 0, _, _, _ => none
 | k + 1, g, v, s => if v < (g.length : Int) then (if 0 ≤ v then (if rd s.index v = 0 then ((searchT k g v s).bind fun s2 => digraph_Components.l0 k g (wrap64 (v + 1)) s2) else digraph_Components.l0 k g (wrap64 (v + 1)) s) else none) else some s.out
def digraph_Components.f (k : Nat) (l0 : List (List Int)) : Option (List Int) := if l0.length ≤ 35184372088832 then digraph_Components.l0 k l0 0 { next := 0, index := List.replicate l0.length 0, low := List.replicate l0.length 0, out := List.replicate l0.length 0, stack := [] } else none
theorem searchT.mono_l : ∀ k, (∀ y0 y1 y2, LeO (searchT k y0 y1 y2) (searchT (k + 1) y0 y1 y2)) ∧ (∀ y0 y1 y2 y3 y4, LeO (loopT k y0 y1 y2 y3 y4) (loopT (k + 1) y0 y1 y2 y3 y4))
 | 0 => ⟨fun _ _ _ r h => by simp [searchT] at h, fun _ _ _ _ _ r h => by simp [loopT] at h⟩
 | k + 1 => by
   obtain ⟨bk, aY⟩ := searchT.mono_l k
   refine ⟨?_, ?_⟩
   · intro y0 y1 y2
     unfold searchT
     repeat' first | exact aY _ _ _ _ _ | exact LeO.none _ | refine LeO.ite ?_ ?_
   · intro y0 y1 y2 y3 y4
     unfold loopT
     repeat' first | exact aY _ _ _ _ _ | exact LeO.refl _ | exact LeO.none _ | refine LeO.ite ?_ ?_ | refine LeO.bind (bk _ _ _) (fun _ => ?_)
theorem digraph_Components.mono_l : ∀ k, ∀ y0 y1 y2, LeO (digraph_Components.l0 k y0 y1 y2) (digraph_Components.l0 (k + 1) y0 y1 y2)
 | 0 => fun _ _ _ r h => by simp [digraph_Components.l0] at h
 | k + 1 => by
   have ih := digraph_Components.mono_l k
   intro y0 y1 y2
   unfold digraph_Components.l0
   repeat' first | exact ih _ _ _ | exact LeO.refl _ | exact LeO.none _ | refine LeO.ite ?_ ?_ | refine LeO.bind ((searchT.mono_l k).1 _ _ _) (fun _ => ?_)
theorem digraph_Components.mono : ∀ a0 k, LeO (digraph_Components.f k a0) (digraph_Components.f (k + 1) a0) := by
 intro a0 k
 unfold digraph_Components.f
 exact LeO.ite (digraph_Components.mono_l k _ _ _) (LeO.none _)
theorem CInv.start {w w1 w2 w3 : World} {A0 : Option Addr} {c0 gi gl go ci cl co : Nat} {g : List (List Int)} (a3 : w3.heap[w.heap.size]? = some (.cells #[.slice A0 g.length c0] 72 (0, 0))) (HBo : w3.heap[w1.heap.size]? = some (.cells #[.slice (some ⟨go, 0, none⟩) g.length co] 39 (0, 0))) (HBi : w3.heap[w2.heap.size]? = some (.cells #[.slice (some ⟨gi, 0, none⟩) g.length ci] 39 (0, 0)))
   (HO : Kd.R (Kd.int .i64) 3 w3 w.heap.size (fun k => k = go) (.slice (some ⟨go, 0, none⟩) g.length co) (List.replicate g.length 0)) (HI : Kd.R (Kd.int .i64) 3 w3 w.heap.size (fun k => k = gi) (.slice (some ⟨gi, 0, none⟩) g.length ci) (List.replicate g.length 0)) (HL : Kd.R (Kd.int .i64) 3 w3 w.heap.size (fun k => k = gl) (.slice (some ⟨gl, 0, none⟩) g.length cl) (List.replicate g.length 0))
   (HB : Below w.heap.size w w3) {F : Value} (hF : F = .func (.func 72) #[] #[.pointer (some ⟨w3.heap.size + 1 + 1, 0, none⟩), .pointer (some ⟨w2.heap.size, 0, none⟩), .pointer (some ⟨w3.heap.size, 0, none⟩), .pointer (some ⟨w1.heap.size, 0, none⟩), .pointer (some ⟨w3.heap.size + 1, 0, none⟩), .pointer (some ⟨w.heap.size, 0, none⟩), .pointer (some ⟨w3.heap.size + 1 + 1 + 1, 0, none⟩)]) :
   CInv w ((((w3.alloc (.cells #[.slice (some ⟨gl, 0, none⟩) g.length cl] 39)).alloc (.cells #[.slice none 0 0] 39)).alloc (.cells #[.int .i64 0] 3)).alloc (.cells #[F] 84)) (w3.heap.size + 1 + 1) w2.heap.size w3.heap.size w1.heap.size (w3.heap.size + 1) w.heap.size (w3.heap.size + 1 + 1 + 1) gi gl go ci cl co A0 c0 g { next := 0, index := List.replicate g.length 0, low := List.replicate g.length 0, out := List.replicate g.length 0, stack := [] } := by
 have s1 := Stays.alloc w3 (.cells #[.slice (some ⟨gl, 0, none⟩) g.length cl] 39)
 have z1 : (w3.alloc (.cells #[.slice (some ⟨gl, 0, none⟩) g.length cl] 39)).heap.size = w3.heap.size + 1 := by simp
 have n1 := alloc_new w3 (.cells #[.slice (some ⟨gl, 0, none⟩) g.length cl] 39)
 have b1 := below_alloc HB (.cells #[.slice (some ⟨gl, 0, none⟩) g.length cl] 39)
 generalize w3.alloc (.cells #[.slice (some ⟨gl, 0, none⟩) g.length cl] 39) = x1 at s1 z1 n1 b1 ⊢
 have s2 := Stays.alloc x1 (.cells #[.slice none 0 0] 39)
 have z2 : (x1.alloc (.cells #[.slice none 0 0] 39)).heap.size = w3.heap.size + 1 + 1 := by simp [z1]
 have n2 := alloc_new x1 (.cells #[.slice none 0 0] 39)
 have b2 := below_alloc b1 (.cells #[.slice none 0 0] 39)
 generalize x1.alloc (.cells #[.slice none 0 0] 39) = x2 at s2 z2 n2 b2 ⊢
 have s3 := Stays.alloc x2 (.cells #[.int .i64 0] 3)
 have z3 : (x2.alloc (.cells #[.int .i64 0] 3)).heap.size = w3.heap.size + 1 + 1 + 1 := by simp [z2]
 have n3 := alloc_new x2 (.cells #[.int .i64 0] 3)
 have b3 := below_alloc b2 (.cells #[.int .i64 0] 3)
 generalize x2.alloc (.cells #[.int .i64 0] 3) = x3 at s3 z3 n3 b3 ⊢
 have s4 := Stays.alloc x3 (.cells #[F] 84)
 have n4 := alloc_new x3 (.cells #[F] 84)
 have b4 := below_alloc b3 (.cells #[F] 84)
 generalize x3.alloc (.cells #[F] 84) = x4 at s4 n4 b4 ⊢
 rw [z1] at n2
 rw [z2] at n3
 rw [z3] at n4
 rw [hF] at n4
 have s := ((s1.trans s2).trans s3).trans s4
 exact ⟨s4.blk n3, s.blk HBi, ((s2.trans s3).trans s4).blk n1, s.blk HBo, ⟨_, (s3.trans s4).blk n2, Kd.R_nil _ _ _ _ _⟩, s.blk a3, n4, s.R HI, s.R HL, s.R HO, b4⟩

set_option maxHeartbeats 2000000 in
set_option maxRecDepth 100000 in
theorem digraph_Components.calls (k : Nat) (A0 : Option Addr) (c0 : Nat) (l0 : List (List Int)) (r : List Int) (w : World) (ap : Kd.C (Kd.slice 3 (Kd.int .i64)) w A0 l0.length l0) (hc0 : l0.length ≤ c0) (h : digraph_Components.f k l0 = some r) :
   Calls Try.prog 54 #[.slice A0 l0.length c0] w fun e w' => ∃ v0_ : Value, e = .returned (v0_) ∧ Kd.R (Kd.int .i64) 3 w' w.heap.size (fun _ => True) v0_ r ∧ Below w.heap.size w w' := by
 have av := Aside0.mk ap
 have aj := Aside0.mk hc0
 clear ap hc0
 unfold digraph_Components.f at h
 by_cases c2 : l0.length ≤ 35184372088832
 case neg => rw [if_neg c2] at h; cases h
 rw [if_pos c2] at h
 have H := Aside0.mk h
 clear h
 have aA : (0 : Int) ≤ (l0.length : Int) := by omega
 have aC : (l0.length : Int).toNat * 8 ≤ 281474976710656 := by omega
 have HG := Aside0.mk (alloc_new w (.cells #[.slice A0 l0.length c0] 72))
 have hmf : ∀ (fn : Fn) (first cap : Array Value) (w : World), (Instr.makeFunc fn first cap).run Try.prog w = .ok (.func fn first cap) w := fun _ _ _ _ => rfl
 go_enter Try.func54, Try.ntmps54
 go_wp2_with (first
   | ((with_reducible refine gate_dst (N := 12) rfl ?_); refine Kd.R_make (w0 := w) (Kd.int .i64) w.heap.size 3 rfl (N := 12) rfl 39 _ _ rfl (l0.length : Int) rfl rfl Try.underlying39 (.int .i64 0) 8 info3 rfl (by decide) (by omega) 0 (ok := fun _ => True) (okp := fun _ => True) rfl (fun _ hk => hk) trivial aA aC (below_alloc (Below.refl _ _) _) (by simp) ?_; intro v1 w1 ho hb hg hnew; rw [Int.toNat_natCast] at ho; obtain ⟨go, co, e2, bH, bI, ho2⟩ := made_row ho hnew; rw [List.length_replicate] at e2 ho2; subst e2; have aZ := Aside0.mk hb; have HO := Aside0.mk ho2; have aI := Aside0.mk ((Stays.grown hg).blk HG.out); have a6 := cell_of_one ((Stays.alloc w1 (.cells #[.slice (some ⟨go, 0, none⟩) l0.length co] 39)).blk aI.out); have br := hb.size; clear ho hb hg hnew ho2)
   | ((with_reducible refine gate_dst (N := 15) rfl ?_); refine Kd.R_make (w0 := w) (Kd.int .i64) w.heap.size 3 rfl (N := 15) rfl 39 _ _ rfl (l0.length : Int) rfl rfl Try.underlying39 (.int .i64 0) 8 info3 rfl (by decide) (by omega) 0 (ok := fun _ => True) (okp := fun _ => True) rfl (fun _ hk => hk) trivial aA aC (below_alloc aZ.out _) (by simp; omega) ?_; intro v2 w2 ho hb hg hnew; rw [Int.toNat_natCast] at ho; obtain ⟨gi, ci, e2, bD, bE, ho2⟩ := made_row ho hnew; rw [List.length_replicate] at e2 ho2; subst e2; have a1 := Aside0.mk hb; have HI := Aside0.mk ho2; have S2 := Aside0.mk ((Stays.alloc w1 (.cells #[.slice (some ⟨go, 0, none⟩) l0.length co] 39)).trans (Stays.grown hg)); have HBo := Aside0.mk ((Stays.grown hg).blk (alloc_new w1 (.cells #[.slice (some ⟨go, 0, none⟩) l0.length co] 39))); have aJ := Aside0.mk (S2.out.blk aI.out); have aw := cell_of_one ((Stays.alloc w2 (.cells #[.slice (some ⟨gi, 0, none⟩) l0.length ci] 39)).blk aJ.out); have bs := hb.size; clear ho hb hg hnew ho2)
   | ((with_reducible refine gate_dst (N := 18) rfl ?_); refine Kd.R_make (w0 := w) (Kd.int .i64) w.heap.size 3 rfl (N := 18) rfl 39 _ _ rfl (l0.length : Int) rfl rfl Try.underlying39 (.int .i64 0) 8 info3 rfl (by decide) (by omega) 0 (ok := fun _ => True) (okp := fun _ => True) rfl (fun _ hk => hk) trivial aA aC (below_alloc a1.out _) (by simp; omega) ?_; intro v3 w3 ho hb hg hnew; rw [Int.toNat_natCast] at ho; obtain ⟨gl, cl, e2, bF, bG, ho2⟩ := made_row ho hnew; rw [List.length_replicate] at e2 ho2; subst e2; have bp := Aside0.mk hb; have HL := Aside0.mk ho2; have S3 := Aside0.mk ((Stays.alloc w2 (.cells #[.slice (some ⟨gi, 0, none⟩) l0.length ci] 39)).trans (Stays.grown hg)); have HBi := Aside0.mk ((Stays.grown hg).blk (alloc_new w2 (.cells #[.slice (some ⟨gi, 0, none⟩) l0.length ci] 39))); have bu := hb.size; have HV := Aside0.mk (CInv.start (S3.out.blk aJ.out) (S3.out.blk HBo.out) HBi.out (S3.out.R (S2.out.R HO.out)) (S3.out.R HI.out) HL.out hb rfl); have a7 := cell_of_one HV.out.hg; have NE := Aside0.mk (show CNe w.heap.size (w3.heap.size + 1 + 1) w2.heap.size w3.heap.size w1.heap.size (w3.heap.size + 1) gi gl go by have := S2.out.1; have := S3.out.1; simp at *; constructor <;> omega); clear ho hb hg hnew ho2))
 go_loopg [22] k (fun kq bn w' => ∃ (i : Int) (s : TS), bn = .int .i64 i ∧ Aside0 (digraph_Components.l0 kq l0 i s = some r) ∧ Aside0 (kq ≤ k) ∧ Aside0 (CInv w w' (w3.heap.size + 1 + 1) w2.heap.size w3.heap.size w1.heap.size (w3.heap.size + 1) w.heap.size (w3.heap.size + 1 + 1 + 1) gi gl go ci cl co A0 c0 l0 s))
 case atStart => exact ⟨0, _, rfl, H, ⟨Nat.le_refl _⟩, HV⟩
 case round =>
   clear H HV a6 aw a7
   obtain ⟨i, s, rfl, HA, HK, HV⟩ := hrel
   cases gk with
   | zero => exact absurd HA.out (by simp [digraph_Components.l0])
   | succ k1 =>
   have H := HA.out
   clear HA
   simp only [digraph_Components.l0] at H
   by_cases c3 : i < (l0.length : Int)
   · rw [if_pos c3] at H
     have c3b : decide (i < (l0.length : Int)) = true := decide_eq_true c3
     by_cases c4 : 0 ≤ i
     case neg => rw [if_neg c4] at H; cases H
     rw [if_pos c4] at H
     rw [show wrap64 (i + 1) = i + 1 by unfold wrap64; omega] at H
     have al := cell_of_one HV.out.hi
     obtain ⟨x1, f1⟩ := (HV.out.cells i c4 c3).1
     by_cases c5 : rd s.index i = 0
     · rw [if_pos c5] at H
       obtain ⟨s2, h1, h2⟩ := Option.bind_eq_some_iff.mp H
       have HS := Aside0.mk h1
       have H' := Aside0.mk h2
       have cf := cell_of_one HV.out.hf
       rw [c5] at x1
       clear H h1 h2 c5
       go_wp2_with (first | (go_at_call 72; refine (search_any w _ _ _ _ _ _ _ _ _ _ _ _ _ _ _ _ av.out aj.out NE.out k1 _ s s2 i HV.out HS.out).mono ?_; rintro e w4 ⟨rfl, ar⟩; have aa := Aside0.mk ar; clear ar))
       go_roundg k1
       case measure => have := HK.out; omega
       case rel => exact ⟨_, _, rfl, H', ⟨by have := HK.out; omega⟩, aa⟩
     · rw [if_neg c5] at H
       have c5b : (rd s.index i == 0) = false := beq_eq_false_iff_ne.mpr c5
       have H' := Aside0.mk H
       clear H c5
       go_wp2
       go_roundg k1
       case measure => have := HK.out; omega
       case rel => exact ⟨_, _, rfl, H', ⟨by have := HK.out; omega⟩, HV⟩
   · rw [if_neg c3] at H
     have c3b : decide (i < (l0.length : Int)) = false := decide_eq_false c3
     obtain rfl := Option.some.inj H
     have ay := cell_of_one HV.out.ho
     clear H
     go_wp2
     go_ret
     exact ⟨_, rfl, Kd.R_mono HV.out.ro (fun _ _ => trivial), HV.out.B⟩

/-! ### netclass_Strong: function 33 -/
def netclass_Strong.l0 : Nat → List Int → Int → Int → Option (Bool)
 | 0, _, _, _ => none
 | k + 1, x10, x11, x12 => if x12 < x11 then (if 0 ≤ x12 then (if x12 < (x10.length : Int) then (if (rd x10 x12) = 0 then (netclass_Strong.l0 k x10 x11 (wrap64 (x12 + 1))) else (some false)) else (none)) else (none)) else (some true)
def netclass_Strong.f (k : Nat) (af : ByteArray) (ab : List (S52)) (ac : List (S48)) : Option (Bool) := (netclass_valid.f k af ab ac).bind fun aF => (if aF = true then ((netclass_Flow.f k af ab ac).bind fun ar => ((digraph_Components.f k ar).bind fun ah => (netclass_Strong.l0 k ah (ah.length : Int) 0))) else (some false))
theorem netclass_Strong.mono_l : ∀ k, M3 netclass_Strong.l0 k
 | 0 => fun _ _ _ r h => by simp [netclass_Strong.l0] at h
 | k + 1 => by
  have aQ := netclass_Strong.mono_l k
  ·intro y0 y1 y2
   unfold netclass_Strong.l0
   repeat' first | (with_reducible first | apply aQ | apply digraph_Components.mono | apply netclass_Flow.mono | apply netclass_valid.mono | apply lr | apply ln | apply li | refine lb ?_ fun _ => ?_)
theorem netclass_Strong.mono : ∀ a0 a1 a2 k, LeO (netclass_Strong.f k a0 a1 a2) (netclass_Strong.f (k + 1) a0 a1 a2) := by
 intro a0 a1 a2 k
 have aQ := netclass_Strong.mono_l k
 unfold netclass_Strong.f
 repeat' first | (with_reducible first | apply aQ | apply digraph_Components.mono | apply netclass_Flow.mono | apply netclass_valid.mono | apply lr | apply ln | apply li | refine lb ?_ fun _ => ?_)
set_option maxHeartbeats 8000000 in
set_option maxRecDepth 100000 in
theorem netclass_Strong.calls (k : Nat) (af : ByteArray) (aA : Option Addr) (aC : Nat) (ab : List (S52)) (aB : Option Addr) (aD : Nat) (ac : List (S48)) (r : Bool) (w : World) (ay : Kd.C k52 w aA ab.length ab) (aw : ab.length ≤ aC) (az : Kd.C k48 w aB ac.length ac) (ax : ac.length ≤ aD) (h : netclass_Strong.f k af ab ac = some r) :
  Calls Try.prog 33 #[.agg #[.string af, .slice aA ab.length aC, .slice aB ac.length aD]] w fun e w' => e = .returned (.bool r) ∧ Below w.heap.size w w' := by
 have a3 := Try.underlying25
 have ao := am ay
 have aj := am aw
 clear ay aw
 have ap := am az
 have ak := am ax
 clear az ax
 have HB := am (Below.refl w.heap.size w)
 have H := h
 unfold netclass_Strong.f at H
 clear h
 replace H := bnd H
 obtain ⟨aF, A2, H⟩ := H
 (try dsimp only at H)
 cases aF
 ·rw [if_neg Bool.false_ne_true] at H
  obtain rfl := Option.some.inj H
  go_enter Try.func33, Try.ntmps33
  go_wp2_with (first | ((with_reducible refine gate_dst (N := 1) rfl ?_); refine box_ev ?_; intro av hg a9 hbox hb; have aa := am hbox; have ai := gwl hg; have aH := ai; replace HB := bsl hb; clear hb hbox hg; have bb := cf3 aa.1) | ((with_reducible refine gate_callee (f := 53) rfl ?_); refine gC 6 Try.func53 _ (netclass_valid.calls k af _ _ ab _ _ ac false _ (csb ao HB) aj.1 (csb ap HB) ak.1 A2.1) ?_; rintro e ba ⟨rfl, hb⟩; refine ⟨_, rfl, ?_⟩; replace aa := bbh aa hb; replace HB := bst hb; (try clear hb)))
  go_ret
  exact ⟨per, pbg⟩
 rw [if_pos rfl] at H
 replace H := bnd H
 obtain ⟨ar, A4, H⟩ := H
 (try dsimp only at H)
 replace H := bnd H
 obtain ⟨ah, A5, H⟩ := H
 (try dsimp only at H)
 have H' := am H
 clear H
 go_enter Try.func33, Try.ntmps33
 go_wp2_with (first | ((with_reducible refine gate_dst (N := 1) rfl ?_); refine box_ev ?_; intro av hg w6 hbox hb; have aa := am hbox; have ai := gwl hg; have aH := ai; replace HB := bsl hb; clear hb hbox hg; have z7 := cf3 aa.1) | ((with_reducible refine gate_callee (f := 53) rfl ?_); refine gC 6 Try.func53 _ (netclass_valid.calls k af _ _ ab _ _ ac true _ (csb ao HB) aj.1 (csb ap HB) ak.1 A2.1) ?_; rintro e w8 ⟨rfl, hb⟩; refine ⟨_, rfl, ?_⟩; replace aa := bbh aa hb; replace HB := bst hb; (try clear hb); have z9 := cf3 aa.1) | ((with_reducible refine gate_callee (f := 55) rfl ?_); refine gC 9 Try.func55 _ (netclass_Flow.calls k af _ _ ab _ _ ac ar _ (csb ao HB) aj.1 (csb ap HB) ak.1 A4.1) ?_; rintro e a7 ⟨a5, rfl, aG, hb⟩; refine ⟨_, rfl, ?_⟩; have ag := am (Kd.S_lower aG (below_size pbg)); replace aa := bbh aa hb; replace HB := bst hb; (try clear hb); (try clear aG); obtain ⟨aY, aZ, aO⟩ := Kd.S_slice ag.1; subst aO) | ((with_reducible refine gate_callee (f := 54) rfl ?_); refine gC 10 Try.func54 _ (digraph_Components.calls k _ _ ar ah _ (csd ((Kd.S_reads' ag.1).2.2)) ((Kd.S_reads' ag.1).2.1) A5.1) ?_; rintro e a8 ⟨a6, rfl, aG, hb⟩; refine ⟨_, rfl, ?_⟩; have au := am (Kd.R_lower aG (below_size pbg)); replace ag := am (Kd.S_elder' (pks ag.1) (Kd.R_base aG) hb); replace aa := bbh aa hb; replace HB := bst hb; (try clear hb); (try clear aG); obtain ⟨aM, aN, aP⟩ := Kd.R_slice au.1; subst aP))
 go_loopg [12] k (fun kq a4 w' => ∃ (ae : Int), a4 = .int .i64 ae ∧ Aside0 (netclass_Strong.l0 kq ah (ah.length : Int) ae = some r) ∧ Aside0 (kq ≤ k) ∧ Aside0 (Kd.R (Kd.int .i64) 3 w' w.heap.size (fun _ => True) (.slice aM ah.length aN) ah) ∧ Aside0 (w'.heap[av]? = some (.cells #[.string af, (.slice aA ab.length aC), (.slice aB ac.length aD)] 25 (0, 0))) ∧ Aside0 (Below w.heap.size w w'))
 case atStart => exact ⟨(0), prs, H', ⟨Nat.le_refl _⟩, ⟨pkr au.1⟩, ⟨pbk aa.1⟩, ⟨pbg⟩⟩
 clear H'
 try clear z7 z9
 obtain ⟨ae, rfl, HA, aT, al, aa, HB⟩ := hrel
 obtain _ | k1 := gk
 ·exact absurd HA.1 (by simp [netclass_Strong.l0])
 have H := HA.1
 clear HA
 simp only [netclass_Strong.l0] at H
 replace H := ifl H
 rcases H with ⟨aJ, H⟩ | ⟨aJ, H⟩
 rotate_left
 ·obtain rfl := Option.some.inj H
  go_wp2
  go_ret
  exact ⟨per, pbg⟩
 replace H := ifp H
 obtain ⟨aU, H⟩ := H
 have aV := decide_eq_true aU
 clear aU
 replace H := ifp H
 obtain ⟨aW, H⟩ := H
 have aX := decide_eq_true aW
 clear aW
 replace H := ife H
 rcases H with ⟨aK, aL, H⟩ | ⟨aK, aL, H⟩
 rotate_left
 ·obtain rfl := Option.some.inj H
  obtain ⟨aR, aS, aI, aE, aq⟩ := dint (Kd.R_reads' al.1).2.2 ae
  cases aE
  go_wp2
  go_ret
  exact ⟨per, pbg⟩
 have H' := am H
 clear H
 obtain ⟨aR, aS, aI, aE, aq⟩ := dint (Kd.R_reads' al.1).2.2 ae
 cases aE
 go_wp2
 go_roundg k1
 case measure => have := aT.1; omega
 case rel => exact ⟨(wrap64 (ae + 1)), prs, H', ⟨by have := aT.1; omega⟩, ⟨pkr al.1⟩, ⟨pbk aa.1⟩, ⟨pbg⟩⟩

/-! ### petrinetlaw43_WorkflowCloses: function 9 -/
attribute [local go_sem high] eqA55
mutual
def petrinetlaw43_WorkflowCloses.j0 : Nat → List Int → Int → Int → Bool → ByteArray → List (S52) → List (S48) → ByteArray → List (S52) → List (S48) → ByteArray → List (S52) → List (S48) → Option (Bool)
 | 0, _, _, _, _, _, _, _, _, _, _, _, _, _ => none
 | k + 1, x9, x11, x13, gm, bL, bM, ak, bw, aV, ar, bx, bz, bA => if gm = true then (none) else (if 0 ≤ (ak.length : Int) then (if (ak.length : Int) < (ar.length : Int) then (if ((rd_T48 ar (ak.length : Int)).f0).toList = ([95, 99, 108, 111, 115, 101] : List UInt8) then (if (((rd_T48 ar (ak.length : Int)).f1).length : Int) = 1 then (if 0 < (((rd_T48 ar (ak.length : Int)).f1).length : Int) then (if (!(((rd_T55 ((rd_T48 ar (ak.length : Int)).f1) 0).f0) == x13) || (!(((rd_T55 ((rd_T48 ar (ak.length : Int)).f1) 0).f1) == 1))) = true then (none) else (if (((rd_T48 ar (ak.length : Int)).f2).length : Int) = 1 then (if 0 < (((rd_T48 ar (ak.length : Int)).f2).length : Int) then (petrinetlaw43_WorkflowCloses.j1 k x9 x11 x13 (!(((rd_T55 ((rd_T48 ar (ak.length : Int)).f2) 0).f0) == x11) || (!(((rd_T55 ((rd_T48 ar (ak.length : Int)).f2) 0).f1) == 1))) bL bM ak bw aV ar bx bz bA) else (none)) else (none))) else (none)) else (none)) else (none)) else (none)) else (none))
def petrinetlaw43_WorkflowCloses.j1 : Nat → List Int → Int → Int → Bool → ByteArray → List (S52) → List (S48) → ByteArray → List (S52) → List (S48) → ByteArray → List (S52) → List (S48) → Option (Bool)
 | 0, _, _, _, _, _, _, _, _, _, _, _, _, _ => none
 | k + 1, x9, x11, x13, gn, bL, bM, ak, bw, aV, ar, bx, bz, bA => if gn = true then (none) else (petrinetlaw43_WorkflowCloses.l0 k x9 x11 x13 0 bL bM ak bw aV ar bx bz bA)
def petrinetlaw43_WorkflowCloses.l0 : Nat → List Int → Int → Int → Int → ByteArray → List (S52) → List (S48) → ByteArray → List (S52) → List (S48) → ByteArray → List (S52) → List (S48) → Option (Bool)
 | 0, _, _, _, _, _, _, _, _, _, _, _, _, _ => none
 | k + 1, x9, x11, x13, cL, bL, bM, ak, bw, aV, ar, bx, bz, bA => if cL < (aV.length : Int) then (if 0 ≤ cL then (if ((((rd_T52 aV cL).f1) == 1) != (cL == x11)) = true then (none) else (if ((rd_T52 aV cL).f1) < 0 then (none) else (if ((rd_T52 aV cL).f1) > 1 then (none) else (if cL < (x9.length : Int) then (if (((rd x9 cL) == 1) != (cL == x13)) = true then (none) else (if (rd x9 cL) < 0 then (none) else (if (rd x9 cL) > 1 then (none) else (petrinetlaw43_WorkflowCloses.l0 k x9 x11 x13 (wrap64 (cL + 1)) bL bM ak bw aV ar bx bz bA)))) else (none))))) else (none)) else (if 0 ≤ (ak.length : Int) then (if (ak.length : Int) ≤ (ar.length : Int) then ((r09_Equal.f k bw aV (ar.take ((ak.length : Int) : Int).toNat) bx bz bA).bind fun dl => (some dl)) else (none)) else (none))
end
def petrinetlaw43_WorkflowCloses.f (k : Nat) (bB : ByteArray) (br : List (S52)) (bs : List (S48)) : Option (Bool) := (petrinetlaw43_lives.f k).bind fun d7 => (if d7 = true then ((r09_Small.f k bB br bs).bind fun aC => (if aC.2.2.2 = true then ((workflow_Close.f k aC.1 aC.2.1 aC.2.2.1).bind fun bF => (if bF.2.2.2 = 0 then ((workflow_Prepare.f k aC.1 aC.2.1 aC.2.2.1).bind fun cA => ((workflow_Final.f k aC.1 aC.2.1 aC.2.2.1).bind fun cT => ((workflow_Source.f k aC.1 aC.2.1 aC.2.2.1).bind fun dz => ((workflow_Sink.f k aC.1 aC.2.1 aC.2.2.1).bind fun dA => (if cA.2.2.2 = 0 then (if cT.2 = 0 then (if dz.2 = true then (if dA.2 = true then ((workflow_Is.f k aC.1 aC.2.1 aC.2.2.1).bind fun ea => (if ea = true then ((netclass_Strong.f k bF.1 bF.2.1 bF.2.2.1).bind fun ec => (if ec = true then (if (bF.2.2.1.length : Int) = (wrap64 ((aC.2.2.1.length : Int) + 1)) then (if (bF.2.1.length : Int) = (aC.2.1.length : Int) then (petrinetlaw43_WorkflowCloses.j0 k cT.1 dz.1 dA.1 ((cT.1.length : Int) != (aC.2.1.length : Int)) aC.1 aC.2.1 aC.2.2.1 bF.1 bF.2.1 bF.2.2.1 cA.1 cA.2.1 cA.2.2.1) else (none)) else (none)) else (none))) else (none))) else (none)) else (none)) else (none)) else (none)))))) else (some true))) else (some true))) else (none))
theorem petrinetlaw43_WorkflowCloses.mono_l : ∀ k, M13 petrinetlaw43_WorkflowCloses.j0 k ∧ M13 petrinetlaw43_WorkflowCloses.j1 k ∧ M13 petrinetlaw43_WorkflowCloses.l0 k
 | 0 => ⟨fun _ _ _ _ _ _ _ _ _ _ _ _ _ r h => by simp [petrinetlaw43_WorkflowCloses.j0] at h, fun _ _ _ _ _ _ _ _ _ _ _ _ _ r h => by simp [petrinetlaw43_WorkflowCloses.j1] at h, fun _ _ _ _ _ _ _ _ _ _ _ _ _ r h => by simp [petrinetlaw43_WorkflowCloses.l0] at h⟩
 | k + 1 => by
  obtain ⟨gb, gc, ge⟩ := petrinetlaw43_WorkflowCloses.mono_l k
  refine ⟨?_, ?_, ?_⟩ <;> dsimp only [M13] <;> intros <;> (first | unfold petrinetlaw43_WorkflowCloses.j0 | unfold petrinetlaw43_WorkflowCloses.j1 | unfold petrinetlaw43_WorkflowCloses.l0) <;> repeat' first | (with_reducible first | apply gb | apply gc | apply ge | apply netclass_Strong.mono | apply petrinetlaw43_lives.mono | apply r09_Equal.mono | apply r09_Small.mono | apply workflow_Close.mono | apply workflow_Final.mono | apply workflow_Is.mono | apply workflow_Prepare.mono | apply workflow_Sink.mono | apply workflow_Source.mono | apply lr | apply ln | apply li | refine lb ?_ fun _ => ?_)
theorem petrinetlaw43_WorkflowCloses.mono : ∀ a0 a1 a2 k, LeO (petrinetlaw43_WorkflowCloses.f k a0 a1 a2) (petrinetlaw43_WorkflowCloses.f (k + 1) a0 a1 a2) := by
 intro a0 a1 a2 k
 obtain ⟨gb, gc, ge⟩ := petrinetlaw43_WorkflowCloses.mono_l k
 unfold petrinetlaw43_WorkflowCloses.f
 repeat' first | (with_reducible first | apply gb | apply gc | apply ge | apply netclass_Strong.mono | apply petrinetlaw43_lives.mono | apply r09_Equal.mono | apply r09_Small.mono | apply workflow_Close.mono | apply workflow_Final.mono | apply workflow_Is.mono | apply workflow_Prepare.mono | apply workflow_Sink.mono | apply workflow_Source.mono | apply lr | apply ln | apply li | refine lb ?_ fun _ => ?_)
set_option maxHeartbeats 8000000 in
set_option maxRecDepth 100000 in
theorem petrinetlaw43_WorkflowCloses.calls (k : Nat) (bB : ByteArray) (bY : Option Addr) (b2 : Nat) (br : List (S52)) (bZ : Option Addr) (b3 : Nat) (bs : List (S48)) (r : Bool) (w : World) (dW : Kd.C k52 w bY br.length br) (dU : br.length ≤ b2) (dX : Kd.C k48 w bZ bs.length bs) (dV : bs.length ≤ b3) (h : petrinetlaw43_WorkflowCloses.f k bB br bs = some r) :
  Calls Try.prog 9 #[.agg #[.string bB, .slice bY br.length b2, .slice bZ bs.length b3]] w fun e w' => e = .returned (.bool r) ∧ Below w.heap.size w w' := by
 have iZ := Try.underlying25
 have i1 := Try.underlying48
 have i2 := Try.underlying55
 have cQ := am dW
 have cO := am dU
 clear dW dU
 have cR := am dX
 have cP := am dV
 clear dX dV
 have HB := am (Below.refl w.heap.size w)
 have H := h
 unfold petrinetlaw43_WorkflowCloses.f at H
 clear h
 replace H := bnd H
 obtain ⟨d7, A2, H⟩ := H
 (try dsimp only at H)
 cases d7
 ·rw [if_neg Bool.false_ne_true] at H
  exact absurd H (by simp)
 rw [if_pos rfl] at H
 replace H := bnd H
 obtain ⟨⟨bu, aG, ab, gg⟩, A4, H⟩ := H
 (try dsimp only at H)
 cases gg
 ·rw [if_neg Bool.false_ne_true] at H
  obtain rfl := Option.some.inj H
  go_enter Try.func9, Try.ntmps9
  go_wp2_with (first | ((with_reducible refine gate_dst (N := 1) rfl ?_); (try (refine gate_guard (by rfl) ?_; dsimp only)); refine box_ev ?_; intro ao hg jo hbox hb; have aa := am hbox; have aW := gwl hg; have du := aW; replace HB := bsl hb; clear hb hbox hg) | ((with_reducible refine gate_callee (f := 11) rfl ?_); refine gC 17 Try.func11 _ (petrinetlaw43_lives.calls k  true _ A2.1) ?_; rintro e jp ⟨rfl, hb⟩; refine ⟨_, rfl, ?_⟩; replace aa := bbh aa hb; replace HB := bst hb; (try clear hb); have jz := cf3 aa.1) | ((with_reducible refine gate_callee (f := 10) rfl ?_); refine gC 21 Try.func10 _ (r09_Small.calls k bB (fun k_ => k_ < w.heap.size) _ _ br (fun k_ => k_ < w.heap.size) _ _ bs bu aG ab false _ (Kd.V_mk cO.1 (Kd.F_below (Kd.C_F k52_heap cQ.1) pbg)) (Kd.V_mk cP.1 (Kd.F_below (Kd.C_F k48_heap cR.1) pbg)) A4.1) ?_; rintro e jq ⟨eK, eL, rfl, bG, ho1, hb⟩; refine ⟨_, rfl, ?_⟩; have af := am (Kd.V_lower (Kd.V_mono (ok' := fun k_ => k_ ≠ ao) bG (fun k_ hk_ => Or.elim hk_ (fun hs_ => Or.elim hs_ (fun hs_ => fun e_ => Nat.not_le.2 hs_ (by rw [e_]; exact aW.1)) (fun hs_ => fun e_ => Nat.not_le.2 hs_ (by rw [e_]; exact aW.1))) (fun hn_ => (Kd.freshB (g := ao) (o := .cells #[.string bB, .slice bY br.length b2, .slice bZ bs.length b3] 25 (0, 0)) (by exact pbk aa.1) k_ hn_)))) (below_size pbg)); have ag := am (Kd.V_lower (Kd.V_mono (ok' := fun k_ => k_ ≠ ao) ho1 (fun k_ hk_ => Or.elim hk_ (fun hs_ => Or.elim hs_ (fun hs_ => fun e_ => Nat.not_le.2 hs_ (by rw [e_]; exact aW.1)) (fun hs_ => fun e_ => Nat.not_le.2 hs_ (by rw [e_]; exact aW.1))) (fun hn_ => (Kd.freshB (g := ao) (o := .cells #[.string bB, .slice bY br.length b2, .slice bZ bs.length b3] 25 (0, 0)) (by exact pbk aa.1) k_ hn_)))) (below_size pbg)); replace aa := bbh aa hb; replace HB := bst hb; (try clear hb); (try clear bG); (try clear ho1)) | ((with_reducible refine gate_dst (N := 3) rfl ?_); (try (refine gate_guard (by rfl) ?_; dsimp only)); refine box_ev (N := 3) (cs := #[.string (⟨#[]⟩ : ByteArray), .slice none 0 0, .slice none 0 0]) (t := 25) ?_; intro ap hg jr hbox hb; have ae := am hbox; have cw := gwb hg; have dv := cw; have aE := nlt hg aa; have aK := ngt hg aa; replace af := vbb af hg hb; replace ag := vbb ag hg hb; replace aa := bbh aa hb; replace HB := bst hb; clear hb hbox hg; have fS := aK.1; have ga := aE.1; have jA := cf3 ae.1; obtain ⟨gG, g6, eE⟩ := Kd.V_slice af.1; subst eE; obtain ⟨gH, g7, eF⟩ := Kd.V_slice ag.1; subst eF))
  go_ret
  exact ⟨per, pbg⟩
 rw [if_pos rfl] at H
 replace H := bnd H
 obtain ⟨⟨bK, aq, ac, eH⟩, A6, H⟩ := H
 (try dsimp only at H)
 replace H := ife H
 rcases H with ⟨dp, dr, H⟩ | ⟨dp, dr, H⟩
 rotate_left
 ·obtain rfl := Option.some.inj H
  go_enter Try.func9, Try.ntmps9
  go_wp2_with (first | ((with_reducible refine gate_dst (N := 1) rfl ?_); (try (refine gate_guard (by rfl) ?_; dsimp only)); refine box_ev ?_; intro ao hg ji hbox hb; have aa := am hbox; have aW := gwl hg; have du := aW; replace HB := bsl hb; clear hb hbox hg) | ((with_reducible refine gate_callee (f := 11) rfl ?_); refine gC 17 Try.func11 _ (petrinetlaw43_lives.calls k  true _ A2.1) ?_; rintro e jj ⟨rfl, hb⟩; refine ⟨_, rfl, ?_⟩; replace aa := bbh aa hb; replace HB := bst hb; (try clear hb); have jw := cf3 aa.1) | ((with_reducible refine gate_callee (f := 10) rfl ?_); refine gC 21 Try.func10 _ (r09_Small.calls k bB (fun k_ => k_ < w.heap.size) _ _ br (fun k_ => k_ < w.heap.size) _ _ bs bu aG ab true _ (Kd.V_mk cO.1 (Kd.F_below (Kd.C_F k52_heap cQ.1) pbg)) (Kd.V_mk cP.1 (Kd.F_below (Kd.C_F k48_heap cR.1) pbg)) A4.1) ?_; rintro e jk ⟨eK, eL, rfl, bG, ho1, hb⟩; refine ⟨_, rfl, ?_⟩; have af := am (Kd.V_lower (Kd.V_mono (ok' := fun k_ => k_ ≠ ao) bG (fun k_ hk_ => Or.elim hk_ (fun hs_ => Or.elim hs_ (fun hs_ => fun e_ => Nat.not_le.2 hs_ (by rw [e_]; exact aW.1)) (fun hs_ => fun e_ => Nat.not_le.2 hs_ (by rw [e_]; exact aW.1))) (fun hn_ => (Kd.freshB (g := ao) (o := .cells #[.string bB, .slice bY br.length b2, .slice bZ bs.length b3] 25 (0, 0)) (by exact pbk aa.1) k_ hn_)))) (below_size pbg)); have ag := am (Kd.V_lower (Kd.V_mono (ok' := fun k_ => k_ ≠ ao) ho1 (fun k_ hk_ => Or.elim hk_ (fun hs_ => Or.elim hs_ (fun hs_ => fun e_ => Nat.not_le.2 hs_ (by rw [e_]; exact aW.1)) (fun hs_ => fun e_ => Nat.not_le.2 hs_ (by rw [e_]; exact aW.1))) (fun hn_ => (Kd.freshB (g := ao) (o := .cells #[.string bB, .slice bY br.length b2, .slice bZ bs.length b3] 25 (0, 0)) (by exact pbk aa.1) k_ hn_)))) (below_size pbg)); replace aa := bbh aa hb; replace HB := bst hb; (try clear hb); (try clear bG); (try clear ho1)) | ((with_reducible refine gate_dst (N := 3) rfl ?_); (try (refine gate_guard (by rfl) ?_; dsimp only)); refine box_ev (N := 3) (cs := #[.string (⟨#[]⟩ : ByteArray), .slice none 0 0, .slice none 0 0]) (t := 25) ?_; intro ap hg jl hbox hb; have ae := am hbox; have cw := gwb hg; have dv := cw; have aE := nlt hg aa; have aK := ngt hg aa; replace af := vbb af hg hb; replace ag := vbb ag hg hb; replace aa := bbh aa hb; replace HB := bst hb; clear hb hbox hg; have fP := aK.1; have f7 := aE.1; have jx := cf3 ae.1; obtain ⟨ei, dQ, eA⟩ := Kd.V_slice af.1; subst eA; obtain ⟨ej, dR, eB⟩ := Kd.V_slice ag.1; subst eB) | ((with_reducible refine gate_callee (f := 25) rfl ?_); refine gC 28 Try.func25 _ (workflow_Close.calls k bu _ _ aG _ _ ab bK aq ac eH _ ?side1 ?side2 ?side3 ?side4 A6.1) ?_; (case side1 => refine (Kd.V_reads' (e := 52) (base := w.heap.size) (ok := fun k_ => (k_ ≠ ao ∧ k_ ≠ ap)) (n := aG.length) (c := dQ) ?_).2.2; exact (by (with_reducible repeat (first | apply Kd.V_alloc | apply Kd.V_drewN | apply Kd.V_drew)); exact (fV3 ap af.1 (fun k_ hk => hk.2)))); (case side2 => exact (Kd.V_reads' af.1).2.1); (case side3 => refine (Kd.V_reads' (e := 48) (base := w.heap.size) (ok := fun k_ => (k_ ≠ ao ∧ k_ ≠ ap)) (n := ab.length) (c := dR) ?_).2.2; exact (by (with_reducible repeat (first | apply Kd.V_alloc | apply Kd.V_drewN | apply Kd.V_drew)); exact (fV3 ap ag.1 (fun k_ hk => hk.2)))); (case side4 => exact (Kd.V_reads' ag.1).2.1); rintro e jm ⟨gj, gl, rfl, bG, ho1, hb⟩; refine ⟨_, rfl, ?_⟩; have aA := am (Kd.R_lower bG (below_size pbg)); have aB := am (Kd.S_lower ho1 (below_size pbg)); replace af := am (Kd.V_mono (Kd.V_told (Kd.V_told (Kd.V_old (by (with_reducible repeat (first | apply Kd.V_alloc | apply Kd.V_drewN | apply Kd.V_drew)); exact (fV3 ap af.1 (fun k_ hk => hk.2))) hb) (Kd.R_base bG)) (Kd.S_base ho1)) (fun _ h_ => h_.1)); replace ag := am (Kd.V_mono (Kd.V_told (Kd.V_told (Kd.V_old (by (with_reducible repeat (first | apply Kd.V_alloc | apply Kd.V_drewN | apply Kd.V_drew)); exact (fV3 ap ag.1 (fun k_ hk => hk.2))) hb) (Kd.R_base bG)) (Kd.S_base ho1)) (fun _ h_ => h_.1)); replace aa := bbx aa (fun h_ => by (with_reducible repeat (first | refine blk_drewN ?_ _ | refine blk_drew ?_ | refine blk_alloc ?_ _)); refine bf3 ?_ aE.1; exact pbk h_) hb; replace ae := am (blk_below (g := ap) (o := .cells #[.string bu, .slice ei aG.length dQ, .slice ej ab.length dR] 25 (0, 0)) (by (with_reducible repeat (first | refine blk_drewN ?_ _ | refine blk_drew ?_ | refine blk_alloc ?_ _)); exact bp3 (pbk ae.1)) hb); replace HB := bst hb; (try clear hb); (try clear hk); (try clear bG); (try clear ho1)) | ((with_reducible refine gate_dst (N := 5) rfl ?_); (try (refine gate_guard (by rfl) ?_; dsimp only)); refine box_ev (N := 5) (cs := #[.string (⟨#[]⟩ : ByteArray), .slice none 0 0, .slice none 0 0]) (t := 25) ?_; intro aD hg jn hbox hb; have ai := am hbox; have cN := gwb hg; have dw := cN; have aJ := nlt hg aa; have aT := ngt hg aa; have aL := nlt hg ae; have aU := ngt hg ae; replace af := vbb af hg hb; replace ag := vbb ag hg hb; replace aA := rbw aA hb; replace aB := sbw aB hb; replace aa := bbh aa hb; replace ae := bbh ae hb; replace HB := bst hb; clear hb hbox hg; have fQ := aT.1; have f8 := aJ.1; have fR := aU.1; have f9 := aL.1; have jy := cf3 ai.1; obtain ⟨gE, g4, eC⟩ := Kd.R_slice aA.1; subst eC; obtain ⟨gF, g5, eD⟩ := Kd.S_slice aB.1; subst eD))
  go_ret
  exact ⟨per, pbg⟩
 replace H := bnd H
 obtain ⟨⟨b4, aO, aP, d8⟩, A8, H⟩ := H
 (try dsimp only at H)
 replace H := bnd H
 obtain ⟨⟨bC, d9⟩, A9, H⟩ := H
 (try dsimp only at H)
 replace H := bnd H
 obtain ⟨⟨cu, eI⟩, A10, H⟩ := H
 (try dsimp only at H)
 replace H := bnd H
 obtain ⟨⟨b9, eJ⟩, A11, H⟩ := H
 (try dsimp only at H)
 have dY := am H
 clear H
 go_enter Try.func9, Try.ntmps9
 go_upto_region 13 with (first | ((with_reducible refine gate_dst (N := 1) rfl ?_); (try (refine gate_guard (by rfl) ?_; dsimp only)); refine box_ev ?_; intro ao hg jC hbox hb; have aa := am hbox; have aW := gwl hg; have du := aW; replace HB := bsl hb; clear hb hbox hg) | ((with_reducible refine gate_callee (f := 11) rfl ?_); refine gC 17 Try.func11 _ (petrinetlaw43_lives.calls k  true _ A2.1) ?_; rintro e jD ⟨rfl, hb⟩; refine ⟨_, rfl, ?_⟩; replace aa := bbh aa hb; replace HB := bst hb; (try clear hb); have gp := cf3 aa.1) | ((with_reducible refine gate_callee (f := 10) rfl ?_); refine gC 21 Try.func10 _ (r09_Small.calls k bB (fun k_ => k_ < w.heap.size) _ _ br (fun k_ => k_ < w.heap.size) _ _ bs bu aG ab true _ (Kd.V_mk cO.1 (Kd.F_below (Kd.C_F k52_heap cQ.1) pbg)) (Kd.V_mk cP.1 (Kd.F_below (Kd.C_F k48_heap cR.1) pbg)) A4.1) ?_; rintro e jE ⟨eK, eL, rfl, bG, ho1, hb⟩; refine ⟨_, rfl, ?_⟩; have af := am (Kd.V_lower (Kd.V_mono (ok' := fun k_ => k_ ≠ ao) bG (fun k_ hk_ => Or.elim hk_ (fun hs_ => Or.elim hs_ (fun hs_ => fun e_ => Nat.not_le.2 hs_ (by rw [e_]; exact aW.1)) (fun hs_ => fun e_ => Nat.not_le.2 hs_ (by rw [e_]; exact aW.1))) (fun hn_ => (Kd.freshB (g := ao) (o := .cells #[.string bB, .slice bY br.length b2, .slice bZ bs.length b3] 25 (0, 0)) (by exact pbk aa.1) k_ hn_)))) (below_size pbg)); have ag := am (Kd.V_lower (Kd.V_mono (ok' := fun k_ => k_ ≠ ao) ho1 (fun k_ hk_ => Or.elim hk_ (fun hs_ => Or.elim hs_ (fun hs_ => fun e_ => Nat.not_le.2 hs_ (by rw [e_]; exact aW.1)) (fun hs_ => fun e_ => Nat.not_le.2 hs_ (by rw [e_]; exact aW.1))) (fun hn_ => (Kd.freshB (g := ao) (o := .cells #[.string bB, .slice bY br.length b2, .slice bZ bs.length b3] 25 (0, 0)) (by exact pbk aa.1) k_ hn_)))) (below_size pbg)); replace aa := bbh aa hb; replace HB := bst hb; (try clear hb); (try clear bG); (try clear ho1)) | ((with_reducible refine gate_dst (N := 3) rfl ?_); (try (refine gate_guard (by rfl) ?_; dsimp only)); refine box_ev (N := 3) (cs := #[.string (⟨#[]⟩ : ByteArray), .slice none 0 0, .slice none 0 0]) (t := 25) ?_; intro ap hg jF hbox hb; have ae := am hbox; have cw := gwb hg; have dv := cw; have aE := nlt hg aa; have aK := ngt hg aa; replace af := vbb af hg hb; replace ag := vbb ag hg hb; replace aa := bbh aa hb; replace HB := bst hb; clear hb hbox hg; have g8 := aK.1; have io := aE.1; have gq := cf3 ae.1; obtain ⟨cy, b7, fz⟩ := Kd.V_slice af.1; subst fz; obtain ⟨cz, b8, fA⟩ := Kd.V_slice ag.1; subst fA) | ((with_reducible refine gate_callee (f := 25) rfl ?_); refine gC 28 Try.func25 _ (workflow_Close.calls k bu _ _ aG _ _ ab bK aq ac eH _ ?side1 ?side2 ?side3 ?side4 A6.1) ?_; (case side1 => refine (Kd.V_reads' (e := 52) (base := w.heap.size) (ok := fun k_ => (k_ ≠ ao ∧ k_ ≠ ap)) (n := aG.length) (c := b7) ?_).2.2; exact (by (with_reducible repeat (first | apply Kd.V_alloc | apply Kd.V_drewN | apply Kd.V_drew)); exact (fV3 ap af.1 (fun k_ hk => hk.2)))); (case side2 => exact (Kd.V_reads' af.1).2.1); (case side3 => refine (Kd.V_reads' (e := 48) (base := w.heap.size) (ok := fun k_ => (k_ ≠ ao ∧ k_ ≠ ap)) (n := ab.length) (c := b8) ?_).2.2; exact (by (with_reducible repeat (first | apply Kd.V_alloc | apply Kd.V_drewN | apply Kd.V_drew)); exact (fV3 ap ag.1 (fun k_ hk => hk.2)))); (case side4 => exact (Kd.V_reads' ag.1).2.1); rintro e jG ⟨gj, gl, rfl, bG, ho1, hb⟩; refine ⟨_, rfl, ?_⟩; have aA := am (Kd.R_lower bG (below_size pbg)); have aB := am (Kd.S_lower ho1 (below_size pbg)); replace af := am (Kd.V_mono (Kd.V_told (Kd.V_told (Kd.V_old (by (with_reducible repeat (first | apply Kd.V_alloc | apply Kd.V_drewN | apply Kd.V_drew)); exact (fV3 ap af.1 (fun k_ hk => hk.2))) hb) (Kd.R_base bG)) (Kd.S_base ho1)) (fun _ h_ => h_.1)); replace ag := am (Kd.V_mono (Kd.V_told (Kd.V_told (Kd.V_old (by (with_reducible repeat (first | apply Kd.V_alloc | apply Kd.V_drewN | apply Kd.V_drew)); exact (fV3 ap ag.1 (fun k_ hk => hk.2))) hb) (Kd.R_base bG)) (Kd.S_base ho1)) (fun _ h_ => h_.1)); replace aa := bbx aa (fun h_ => by (with_reducible repeat (first | refine blk_drewN ?_ _ | refine blk_drew ?_ | refine blk_alloc ?_ _)); refine bf3 ?_ aE.1; exact pbk h_) hb; replace ae := am (blk_below (g := ap) (o := .cells #[.string bu, .slice cy aG.length b7, .slice cz ab.length b8] 25 (0, 0)) (by (with_reducible repeat (first | refine blk_drewN ?_ _ | refine blk_drew ?_ | refine blk_alloc ?_ _)); exact bp3 (pbk ae.1)) hb); replace HB := bst hb; (try clear hb); (try clear hk); (try clear bG); (try clear ho1)) | ((with_reducible refine gate_dst (N := 5) rfl ?_); (try (refine gate_guard (by rfl) ?_; dsimp only)); refine box_ev (N := 5) (cs := #[.string (⟨#[]⟩ : ByteArray), .slice none 0 0, .slice none 0 0]) (t := 25) ?_; intro aD hg jH hbox hb; have ai := am hbox; have cN := gwb hg; have dw := cN; have aJ := nlt hg aa; have aT := ngt hg aa; have aL := nlt hg ae; have aU := ngt hg ae; replace af := vbb af hg hb; replace ag := vbb ag hg hb; replace aA := rbw aA hb; replace aB := sbw aB hb; replace aa := bbh aa hb; replace ae := bbh ae hb; replace HB := bst hb; clear hb hbox hg; have g9 := aT.1; have ip := aJ.1; have hD := aU.1; have iq := aL.1; have gr := cf3 ai.1; obtain ⟨a4, a5, fB⟩ := Kd.R_slice aA.1; subst fB; obtain ⟨b6, aN, fC⟩ := Kd.S_slice aB.1; subst fC; have gs := cf3 ae.1) | ((with_reducible refine gate_callee (f := 21) rfl ?_); refine gC 35 Try.func21 _ (workflow_Prepare.calls k bu _ _ aG _ _ ab b4 aO aP d8 _ ?side1 ?side2 ?side3 ?side4 A8.1) ?_; (case side1 => refine (Kd.V_reads' (e := 52) (base := w.heap.size) (ok := fun k_ => ((((k_ ≠ ao ∧ k_ ≠ ap) ∧ some k_ ≠ (.slice a4 aq.length a5 : Value).ownBlock) ∧ some k_ ≠ (.slice b6 ac.length aN : Value).ownBlock) ∧ k_ ≠ aD)) (n := aG.length) (c := b7) ?_).2.2; exact (by (with_reducible repeat (first | apply Kd.V_alloc | apply Kd.V_drewN | apply Kd.V_drew)); exact (fV3 aD af.1 (fun k_ hk => hk.2)))); (case side2 => exact (Kd.V_reads' af.1).2.1); (case side3 => refine (Kd.V_reads' (e := 48) (base := w.heap.size) (ok := fun k_ => ((((k_ ≠ ao ∧ k_ ≠ ap) ∧ some k_ ≠ (.slice a4 aq.length a5 : Value).ownBlock) ∧ some k_ ≠ (.slice b6 ac.length aN : Value).ownBlock) ∧ k_ ≠ aD)) (n := ab.length) (c := b8) ?_).2.2; exact (by (with_reducible repeat (first | apply Kd.V_alloc | apply Kd.V_drewN | apply Kd.V_drew)); exact (fV3 aD ag.1 (fun k_ hk => hk.2)))); (case side4 => exact (Kd.V_reads' ag.1).2.1); rintro e jI ⟨jg, jh, rfl, bG, ho1, hb⟩; refine ⟨_, rfl, ?_⟩; have a6 := am (Kd.R_lower (Kd.R_new' bG (Kd.R_lt (by (with_reducible repeat (first | apply Kd.R_alloc | apply Kd.R_drewN | apply Kd.R_drew)); exact (Kd.R_mono (fR3 aD (Kd.R_types aA.1 ai.1 (by decide)) (fun _ hk => hk.2)) (fun _ h_ => h_.1))))) (below_size pbg)); have a7 := am (Kd.S_lower (Kd.S_new' ho1 (Kd.S_lt (by (with_reducible repeat (first | apply Kd.S_alloc | apply Kd.S_drewN | apply Kd.S_drew)); exact (Kd.S_mono (fS3 aD (Kd.S_types aB.1 ai.1 (by decide)) (fun _ hk => hk.2)) (fun _ h_ => h_.1))))) (below_size pbg)); replace af := am (Kd.V_mono (Kd.V_told (Kd.V_told (Kd.V_old (by (with_reducible repeat (first | apply Kd.V_alloc | apply Kd.V_drewN | apply Kd.V_drew)); exact (fV3 aD af.1 (fun k_ hk => hk.2))) hb) (Kd.R_base bG)) (Kd.S_base ho1)) (fun _ h_ => h_.1)); replace ag := am (Kd.V_mono (Kd.V_told (Kd.V_told (Kd.V_old (by (with_reducible repeat (first | apply Kd.V_alloc | apply Kd.V_drewN | apply Kd.V_drew)); exact (fV3 aD ag.1 (fun k_ hk => hk.2))) hb) (Kd.R_base bG)) (Kd.S_base ho1)) (fun _ h_ => h_.1)); replace aA := am (Kd.R_elder' (by (with_reducible repeat (first | apply Kd.R_alloc | apply Kd.R_drewN | apply Kd.R_drew)); exact (Kd.R_mono (fR3 aD (Kd.R_types aA.1 ai.1 (by decide)) (fun _ hk => hk.2)) (fun _ h_ => h_.1))) (Kd.R_base bG) hb); replace aB := am (Kd.S_elder' (by (with_reducible repeat (first | apply Kd.S_alloc | apply Kd.S_drewN | apply Kd.S_drew)); exact (Kd.S_mono (fS3 aD (Kd.S_types aB.1 ai.1 (by decide)) (fun _ hk => hk.2)) (fun _ h_ => h_.1))) (Kd.S_base ho1) hb); replace aa := bbx aa (fun h_ => by (with_reducible repeat (first | refine blk_drewN ?_ _ | refine blk_drew ?_ | refine blk_alloc ?_ _)); refine bf3 ?_ aJ.1; exact pbk h_) hb; replace ae := bbx ae (fun h_ => by (with_reducible repeat (first | refine blk_drewN ?_ _ | refine blk_drew ?_ | refine blk_alloc ?_ _)); refine bf3 ?_ aL.1; exact pbk h_) hb; replace ai := am (blk_below (g := aD) (o := .cells #[.string bK, .slice a4 aq.length a5, .slice b6 ac.length aN] 25 (0, 0)) (by (with_reducible repeat (first | refine blk_drewN ?_ _ | refine blk_drew ?_ | refine blk_alloc ?_ _)); exact bp3 (pbk ai.1)) hb); replace HB := bst hb; (try clear hb); (try clear hk); (try clear bG); (try clear ho1)) | ((with_reducible refine gate_dst (N := 7) rfl ?_); (try (refine gate_guard (by rfl) ?_; dsimp only)); refine box_ev (N := 7) (cs := #[.string (⟨#[]⟩ : ByteArray), .slice none 0 0, .slice none 0 0]) (t := 25) ?_; intro aF hg jJ hbox hb; have au := am hbox; have ek := gwb hg; have gI := ek; have bO := nlt hg aa; have ca := ngt hg aa; have bb := nlt hg ae; have bv := ngt hg ae; have aZ := nlt hg ai; have a3 := ngt hg ai; replace af := vbb af hg hb; replace ag := vbb ag hg hb; replace aA := rbw aA hb; replace aB := sbw aB hb; replace a6 := rbw a6 hb; replace a7 := sbw a7 hb; replace aa := bbh aa hb; replace ae := bbh ae hb; replace ai := bbh ai hb; replace HB := bst hb; clear hb hbox hg; have hG := ca.1; have ir := bO.1; have hI := bv.1; have iu := bb.1; have hJ := a3.1; have iv := aZ.1; have gu := cf3 au.1; obtain ⟨bc, bf, fD⟩ := Kd.R_slice a6.1; subst fD; obtain ⟨bd, bg, fE⟩ := Kd.S_slice a7.1; subst fE; have gv := cf3 ae.1) | ((with_reducible refine gate_callee (f := 23) rfl ?_); refine gC 40 Try.func23 _ (workflow_Final.calls k bu _ _ aG _ _ ab bC d9 _ ?side1 ?side2 ?side3 ?side4 A9.1) ?_; (case side1 => refine (Kd.V_reads' (e := 52) (base := w.heap.size) (ok := fun k_ => (((((((k_ ≠ ao ∧ k_ ≠ ap) ∧ some k_ ≠ (.slice a4 aq.length a5 : Value).ownBlock) ∧ some k_ ≠ (.slice b6 ac.length aN : Value).ownBlock) ∧ k_ ≠ aD) ∧ some k_ ≠ (.slice bc aO.length bf : Value).ownBlock) ∧ some k_ ≠ (.slice bd aP.length bg : Value).ownBlock) ∧ k_ ≠ aF)) (n := aG.length) (c := b7) ?_).2.2; exact (by (with_reducible repeat (first | apply Kd.V_alloc | apply Kd.V_drewN | apply Kd.V_drew)); exact (fV3 aF af.1 (fun k_ hk => hk.2)))); (case side2 => exact (Kd.V_reads' af.1).2.1); (case side3 => refine (Kd.V_reads' (e := 48) (base := w.heap.size) (ok := fun k_ => (((((((k_ ≠ ao ∧ k_ ≠ ap) ∧ some k_ ≠ (.slice a4 aq.length a5 : Value).ownBlock) ∧ some k_ ≠ (.slice b6 ac.length aN : Value).ownBlock) ∧ k_ ≠ aD) ∧ some k_ ≠ (.slice bc aO.length bf : Value).ownBlock) ∧ some k_ ≠ (.slice bd aP.length bg : Value).ownBlock) ∧ k_ ≠ aF)) (n := ab.length) (c := b8) ?_).2.2; exact (by (with_reducible repeat (first | apply Kd.V_alloc | apply Kd.V_drewN | apply Kd.V_drew)); exact (fV3 aF ag.1 (fun k_ hk => hk.2)))); (case side4 => exact (Kd.V_reads' ag.1).2.1); rintro e jK ⟨cv, rfl, bG, hb⟩; refine ⟨_, rfl, ?_⟩; have bD := am (Kd.R_lower bG (below_size pbg)); replace af := am (Kd.V_elder' (by (with_reducible repeat (first | apply Kd.V_alloc | apply Kd.V_drewN | apply Kd.V_drew)); exact (fV3 aF af.1 (fun k_ hk => hk.2))) (Kd.R_base bG) hb); replace ag := am (Kd.V_elder' (by (with_reducible repeat (first | apply Kd.V_alloc | apply Kd.V_drewN | apply Kd.V_drew)); exact (fV3 aF ag.1 (fun k_ hk => hk.2))) (Kd.R_base bG) hb); replace aA := am (Kd.R_below (by (with_reducible repeat (first | apply Kd.R_alloc | apply Kd.R_drewN | apply Kd.R_drew)); exact (Kd.R_mono (fR3 aF (Kd.R_types aA.1 au.1 (by decide)) (fun _ hk => hk.2)) (fun _ h_ => h_.1))) hb); replace aB := am (Kd.S_below (by (with_reducible repeat (first | apply Kd.S_alloc | apply Kd.S_drewN | apply Kd.S_drew)); exact (Kd.S_mono (fS3 aF (Kd.S_types aB.1 au.1 (by decide)) (fun _ hk => hk.2)) (fun _ h_ => h_.1))) hb); replace a6 := am (Kd.R_below (by (with_reducible repeat (first | apply Kd.R_alloc | apply Kd.R_drewN | apply Kd.R_drew)); exact (Kd.R_mono (fR3 aF (Kd.R_types a6.1 au.1 (by decide)) (fun _ hk => hk.2)) (fun _ h_ => h_.1))) hb); replace a7 := am (Kd.S_below (by (with_reducible repeat (first | apply Kd.S_alloc | apply Kd.S_drewN | apply Kd.S_drew)); exact (Kd.S_mono (fS3 aF (Kd.S_types a7.1 au.1 (by decide)) (fun _ hk => hk.2)) (fun _ h_ => h_.1))) hb); replace aa := bbx aa (fun h_ => by (with_reducible repeat (first | refine blk_drewN ?_ _ | refine blk_drew ?_ | refine blk_alloc ?_ _)); refine bf3 ?_ bO.1; exact pbk h_) hb; replace ae := bbx ae (fun h_ => by (with_reducible repeat (first | refine blk_drewN ?_ _ | refine blk_drew ?_ | refine blk_alloc ?_ _)); refine bf3 ?_ bb.1; exact pbk h_) hb; replace ai := bbx ai (fun h_ => by (with_reducible repeat (first | refine blk_drewN ?_ _ | refine blk_drew ?_ | refine blk_alloc ?_ _)); refine bf3 ?_ aZ.1; exact pbk h_) hb; replace au := am (blk_below (g := aF) (o := .cells #[.string b4, .slice bc aO.length bf, .slice bd aP.length bg] 25 (0, 0)) (by (with_reducible repeat (first | refine blk_drewN ?_ _ | refine blk_drew ?_ | refine blk_alloc ?_ _)); exact bp3 (pbk au.1)) hb); replace HB := bst hb; (try clear hb); (try clear hk); (try clear bG); have gw := cf3 ae.1) | ((with_reducible refine gate_callee (f := 12) rfl ?_); refine gC 45 Try.func12 _ (workflow_Source.calls k bu _ _ aG _ _ ab cu eI _ (csd ((Kd.V_reads' af.1).2.2)) ((Kd.V_reads' af.1).2.1) (csd ((Kd.V_reads' ag.1).2.2)) ((Kd.V_reads' ag.1).2.1) A10.1) ?_; rintro e jL ⟨rfl, hb⟩; refine ⟨_, rfl, ?_⟩; replace af := vbw af hb; replace ag := vbw ag hb; replace aA := rbw aA hb; replace aB := sbw aB hb; replace a6 := rbw a6 hb; replace a7 := sbw a7 hb; replace bD := rbw bD hb; replace aa := bbh aa hb; replace ae := bbh ae hb; replace ai := bbh ai hb; replace au := bbh au hb; replace HB := bst hb; (try clear hb); have gx := cf3 ae.1) | ((with_reducible refine gate_callee (f := 14) rfl ?_); refine gC 50 Try.func14 _ (workflow_Sink.calls k bu _ _ aG _ _ ab b9 eJ _ (csd ((Kd.V_reads' af.1).2.2)) ((Kd.V_reads' af.1).2.1) (csd ((Kd.V_reads' ag.1).2.2)) ((Kd.V_reads' ag.1).2.1) A11.1) ?_; rintro e jM ⟨rfl, hb⟩; refine ⟨_, rfl, ?_⟩; replace af := vbw af hb; replace ag := vbw ag hb; replace aA := rbw aA hb; replace aB := sbw aB hb; replace a6 := rbw a6 hb; replace a7 := sbw a7 hb; replace bD := rbw bD hb; replace aa := bbh aa hb; replace ae := bbh ae hb; replace ai := bbh ai hb; replace au := bbh au hb; replace HB := bst hb; (try clear hb)))
 (try simp only [Act.put, List.setIfInBounds_toArray, List.set_cons_zero, List.set_cons_succ])
 go_cut [103] (fun gh wc => ∃ (kq : Nat) (bW : Bool), gh = .bool bW ∧ Aside0 (petrinetlaw43_WorkflowCloses.j0 kq bC cu b9 bW bu aG ab bK aq ac b4 aO aP = some r) ∧ Aside0 (kq ≤ k) ∧ Aside0 (Kd.R (Kd.int .i64) 3 wc w.heap.size (fun _ => True) cv bC) ∧ Aside0 (Kd.V k52 52 wc w.heap.size (fun k_ => some k_ ≠ (cv : Value).ownBlock ∧ some k_ ≠ ((.slice a4 aq.length a5) : Value).ownBlock ∧ some k_ ≠ ((.slice b6 ac.length aN) : Value).ownBlock ∧ some k_ ≠ ((.slice bc aO.length bf) : Value).ownBlock ∧ some k_ ≠ ((.slice bd aP.length bg) : Value).ownBlock ∧ k_ ≠ ao ∧ k_ ≠ ap ∧ k_ ≠ aD ∧ k_ ≠ aF) (.slice cy aG.length b7) aG) ∧ Aside0 (Kd.V k48 48 wc w.heap.size (fun k_ => some k_ ≠ (cv : Value).ownBlock ∧ some k_ ≠ ((.slice a4 aq.length a5) : Value).ownBlock ∧ some k_ ≠ ((.slice b6 ac.length aN) : Value).ownBlock ∧ some k_ ≠ ((.slice bc aO.length bf) : Value).ownBlock ∧ some k_ ≠ ((.slice bd aP.length bg) : Value).ownBlock ∧ k_ ≠ ao ∧ k_ ≠ ap ∧ k_ ≠ aD ∧ k_ ≠ aF) (.slice cz ab.length b8) ab) ∧ Aside0 (Kd.R k52 52 wc w.heap.size (fun k_ => some k_ ≠ ((.slice bc aO.length bf) : Value).ownBlock) (.slice a4 aq.length a5) aq) ∧ Aside0 (Kd.S k48 48 wc w.heap.size (fun k_ => some k_ ≠ ((.slice bd aP.length bg) : Value).ownBlock) (.slice b6 ac.length aN) ac) ∧ Aside0 (Kd.R k52 52 wc w.heap.size (fun k_ => some k_ ≠ ((.slice a4 aq.length a5) : Value).ownBlock) (.slice bc aO.length bf) aO) ∧ Aside0 (Kd.S k48 48 wc w.heap.size (fun k_ => some k_ ≠ ((.slice b6 ac.length aN) : Value).ownBlock) (.slice bd aP.length bg) aP) ∧ Aside0 (wc.heap[ao]? = some (.cells #[.string bB, (.slice bY br.length b2), (.slice bZ bs.length b3)] 25 (0, 0))) ∧ Aside0 (wc.heap[ap]? = some (.cells #[.string bu, (.slice cy aG.length b7), (.slice cz ab.length b8)] 25 (0, 0))) ∧ Aside0 (wc.heap[aD]? = some (.cells #[.string bK, (.slice a4 aq.length a5), (.slice b6 ac.length aN)] 25 (0, 0))) ∧ Aside0 (wc.heap[aF]? = some (.cells #[.string b4, (.slice bc aO.length bf), (.slice bd aP.length bg)] 25 (0, 0))) ∧ Aside0 (Below w.heap.size w wc))
 case first =>
  have H := dY.1
  clear dY
  replace H := ifp H
  obtain ⟨ed, H⟩ := H
  have cx : (d8 == 0) = true := beq_iff_eq.mpr ed
  have cU : (d8 != 0) = false := bne_eq_false_iff_eq.mpr ed
  clear ed
  (first | rw [cx] | (simp only [i64_w, i32_w]; rw [cx]) | skip)
  replace H := ifp H
  obtain ⟨ee, H⟩ := H
  have cV : (d9 == 0) = true := beq_iff_eq.mpr ee
  have cW : (d9 != 0) = false := bne_eq_false_iff_eq.mpr ee
  clear ee
  cases eI
  ·rw [if_neg Bool.false_ne_true] at H
   exact absurd H (by simp)
  rw [if_pos rfl] at H
  cases eJ
  ·rw [if_neg Bool.false_ne_true] at H
   exact absurd H (by simp)
  rw [if_pos rfl] at H
  replace H := bnd H
  obtain ⟨ea, iV, H⟩ := H
  (try dsimp only at H)
  cases ea
  ·rw [if_neg Bool.false_ne_true] at H
   exact absurd H (by simp)
  rw [if_pos rfl] at H
  replace H := bnd H
  obtain ⟨ec, iW, H⟩ := H
  (try dsimp only at H)
  cases ec
  ·rw [if_neg Bool.false_ne_true] at H
   exact absurd H (by simp)
  rw [if_pos rfl] at H
  replace H := ifp H
  obtain ⟨ef, H⟩ := H
  have cX : ((ac.length : Int) == (wrap64 ((ab.length : Int) + 1))) = true := beq_iff_eq.mpr ef
  have cY : ((ac.length : Int) != (wrap64 ((ab.length : Int) + 1))) = false := bne_eq_false_iff_eq.mpr ef
  clear ef
  replace H := ifp H
  obtain ⟨dB, H⟩ := H
  have cZ : ((aq.length : Int) == (aG.length : Int)) = true := beq_iff_eq.mpr dB
  have da : ((aq.length : Int) != (aG.length : Int)) = false := bne_eq_false_iff_eq.mpr dB
  have db : (aq.length == aG.length) = true := by first | simpa using dB | (simp at dB ⊢; omega)
  clear dB
  have H' := am H
  clear H
  have hL := aK.1
  have iw := aE.1
  have hO := aL.1
  have ix := aU.1
  have hP := bb.1
  have iy := bv.1
  have gy := cf3 ae.1
  go_wp2_with (first | (go_at_call 16; (with_reducible refine (workflow_Is.calls k bu _ _ aG _ _ ab true _ ?side1 ?side2 ?side3 ?side4 iV.1).mono ?_); (case side1 => exact csd ((Kd.V_reads' af.1).2.2)); (case side2 => exact (Kd.V_reads' af.1).2.1); (case side3 => exact csd ((Kd.V_reads' ag.1).2.2)); (case side4 => exact (Kd.V_reads' ag.1).2.1); rintro e jN ⟨rfl, hb⟩; replace af := vbw af hb; replace ag := vbw ag hb; replace aA := rbw aA hb; replace aB := sbw aB hb; replace a6 := rbw a6 hb; replace a7 := sbw a7 hb; replace bD := rbw bD hb; replace aa := bbh aa hb; replace ae := bbh ae hb; replace ai := bbh ai hb; replace au := bbh au hb; replace HB := bst hb; (try clear hb); have hU := aT.1; have iz := aJ.1; have hV := aZ.1; have iA := a3.1; have gz := cf3 ai.1) | (go_at_call 33; (with_reducible refine (netclass_Strong.calls k bK _ _ aq _ _ ac true _ ?side1 ?side2 ?side3 ?side4 iW.1).mono ?_); (case side1 => exact csd ((Kd.R_reads' aA.1).2.2)); (case side2 => exact (Kd.R_reads' aA.1).2.1); (case side3 => exact csd ((Kd.S_reads' aB.1).2.2)); (case side4 => exact (Kd.S_reads' aB.1).2.1); rintro e jO ⟨rfl, hb⟩; replace af := vbw af hb; replace ag := vbw ag hb; replace aA := rbw aA hb; replace aB := sbw aB hb; replace a6 := rbw a6 hb; replace a7 := sbw a7 hb; replace bD := rbw bD hb; replace aa := bbh aa hb; replace ae := bbh ae hb; replace ai := bbh ai hb; replace au := bbh au hb; replace HB := bst hb; (try clear hb); have gA := cf3 ai.1; have gB := cf3 ae.1; obtain ⟨iX, iY, fF⟩ := Kd.R_slice bD.1; subst fF))
  go_meet
  case rel => exact ⟨_, (((bC.length : Int) != (aG.length : Int))), prs, H', ⟨by first | omega | exact Nat.le_refl _⟩, ⟨pkr bD.1⟩, ⟨by (with_reducible repeat (first | apply Kd.V_alloc | apply Kd.V_drewN | apply Kd.V_drew)); exact Kd.V_mono af.1 (fun _ hk => ⟨hk.2, ⟨hk.1.1.1.1.1.1.2, ⟨hk.1.1.1.1.1.2, ⟨hk.1.1.1.2, ⟨hk.1.1.2, ⟨hk.1.1.1.1.1.1.1.1, ⟨hk.1.1.1.1.1.1.1.2, ⟨hk.1.1.1.1.2, hk.1.2⟩⟩⟩⟩⟩⟩⟩⟩)⟩, ⟨by (with_reducible repeat (first | apply Kd.V_alloc | apply Kd.V_drewN | apply Kd.V_drew)); exact Kd.V_mono ag.1 (fun _ hk => ⟨hk.2, ⟨hk.1.1.1.1.1.1.2, ⟨hk.1.1.1.1.1.2, ⟨hk.1.1.1.2, ⟨hk.1.1.2, ⟨hk.1.1.1.1.1.1.1.1, ⟨hk.1.1.1.1.1.1.1.2, ⟨hk.1.1.1.1.2, hk.1.2⟩⟩⟩⟩⟩⟩⟩⟩)⟩, ⟨by (with_reducible repeat (first | apply Kd.R_alloc | apply Kd.R_drewN | apply Kd.R_drew)); exact Kd.R_mono aA.1 (fun _ hk => hk.2)⟩, ⟨by (with_reducible repeat (first | apply Kd.S_alloc | apply Kd.S_drewN | apply Kd.S_drew)); exact Kd.S_mono aB.1 (fun _ hk => hk.2)⟩, ⟨by (with_reducible repeat (first | apply Kd.R_alloc | apply Kd.R_drewN | apply Kd.R_drew)); exact Kd.R_mono a6.1 (fun _ hk => hk.2)⟩, ⟨by (with_reducible repeat (first | apply Kd.S_alloc | apply Kd.S_drewN | apply Kd.S_drew)); exact Kd.S_mono a7.1 (fun _ hk => hk.2)⟩, ⟨pbk aa.1⟩, ⟨pbk ae.1⟩, ⟨pbk ai.1⟩, ⟨pbk au.1⟩, ⟨pbg⟩⟩
 clear dY
 try clear c3 c5 dp dr ed cx cU ee cV cW gN gO gP gQ ef cX cY dB cZ da db gp gq gr gs gu gv gw gx gy gz gA gB
 obtain ⟨kq, bW, rfl, HA, d0, b0, aR, aS, av, al, aH, aI, aa, ae, ai, au, HB⟩ := hcut
 obtain _ | gf := kq
 ·exact absurd HA.1 (by simp [petrinetlaw43_WorkflowCloses.j0])
 have H := HA.1
 clear HA
 simp only [petrinetlaw43_WorkflowCloses.j0] at H
 cases bW
 rotate_left
 ·rw [if_pos rfl] at H
  exact absurd H (by simp)
 rw [if_neg Bool.false_ne_true] at H
 replace H := ifp H
 obtain ⟨eP, H⟩ := H
 have dC := decide_eq_true eP
 have dD : decide (0 ≤ ab.length) = true := decide_eq_true (by omega)
 clear eP
 replace H := ifp H
 obtain ⟨eu, H⟩ := H
 have dE := decide_eq_true eu
 have dF : decide (ab.length < ac.length) = true := decide_eq_true (Int.ofNat_lt.mp eu)
 clear eu
 have dZ := am H
 clear H
 have hX := aT.1
 have iB := aJ.1
 have hY := aU.1
 have iC := aL.1
 have hZ := aZ.1
 have iD := a3.1
 have iR := cf3 ai.1
 have ia := aK.1
 have iE := aE.1
 have ib := bb.1
 have iF := bv.1
 have iS := cf3 ae.1
 have cJ : 0 ≤ ((ab.length : Int) : Int) := dq
 have cK : (ab.length : Int) < (ac.length : Int) := dq
 obtain ⟨aM, cM, ci, cg, cj, bN, ck, fo, cq, bT, bU, bV, cr, cF, cC, cG, cD, cH, cE⟩ := at_T48 (Kd.S_reads' al.1).2.2 (ab.length : Int) cJ cK
 cases fo
 obtain ⟨gY, d4, d3, cp⟩ := Kd.S_get al.1 z48 (ab.length : Int) cJ (by first | exact cK | exact dq | (have e_ := (Kd.S_reads' al.1).1; omega))
 obtain ⟨e9, fa, fb, rfl, cm, cn, co⟩ := k48_openM d3
 have bH := cp 1 _ rfl
 rw [add_field _ _ 1 (by omega)] at bH
 replace bH := Option.some.inj (bH.symm.trans bT)
 rw [bH] at cm
 have aX := am (show Kd.R k55 55 _ _ _ _ ((rd_T48 ac (ab.length : Int)).f1) from cm)
 clear bH cm
 have bI := cp 2 _ rfl
 rw [add_field _ _ 2 (by omega)] at bI
 replace bI := Option.some.inj (bI.symm.trans bU)
 rw [bI] at cn
 have aY := am (show Kd.R k55 55 _ _ _ _ ((rd_T48 ac (ab.length : Int)).f2) from cn)
 clear bI cn
 have bJ := cp 3 _ rfl
 rw [add_field _ _ 3 (by omega)] at bJ
 replace bJ := Option.some.inj (bJ.symm.trans bV)
 rw [bJ] at co
 have ch := am (show Kd.R k55 55 _ _ _ _ ((rd_T48 ac (ab.length : Int)).f3) from co)
 clear bJ co cp d4
 have a8 := am cC
 have eM := am cF
 clear cC cF
 have a9 := am cD
 have eN := am cG
 clear cD cG
 have ba := am cE
 have eO := am cH
 clear cE cH
 (try simp only [Go.IntWalk.toNatUp] at cq)
 (try simp only [Go.IntWalk.toNatUp] at bT)
 (try simp only [Go.IntWalk.toNatUp] at bU)
 (try simp only [Go.IntWalk.toNatUp] at bV)
 (try simp only [Go.IntWalk.toNatUp] at cr)
 replace cJ := eq_true cJ
 replace cK := eq_true cK
 go_upto_region 16 with (first | ((with_reducible refine gate_dst (N := 15) rfl ?_); (try (refine gate_guard (by rfl) ?_; dsimp only)); refine box_ev (N := 15) (cs := #[.string (⟨#[]⟩ : ByteArray), .slice none 0 0, .slice none 0 0, .slice none 0 0, .int .i64 0]) (t := 48) ?_; intro ah hg jP hbox hb; have aQ := am hbox; have el := gwb hg; have gJ := el; have bP := nlt hg aa; have cb := ngt hg aa; have bQ := nlt hg ae; have cd := ngt hg ae; have bR := nlt hg ai; have ce := ngt hg ai; have bS := nlt hg au; have cf := ngt hg au; replace b0 := rbw b0 hb; replace aR := vbb aR hg hb; replace aS := vbb aS hg hb; replace av := rbw av hb; replace al := am (Kd.S_below (Kd.S_elderB (pks al.1) ah (Nat.le_of_eq hg.symm)) hb); replace aH := rbw aH hb; replace aI := am (Kd.S_below (Kd.S_elderB (pks aI.1) ah (Nat.le_of_eq hg.symm)) hb); replace aX := rbw aX hb; replace aY := rbw aY hb; replace ch := rbw ch hb; replace aa := bbh aa hb; replace ae := bbh ae hb; replace ai := bbh ai hb; replace au := bbh au hb; replace a8 := cbb a8 hb; replace a9 := cbb a9 hb; replace ba := cbb ba hb; replace HB := bst hb; clear hb hbox hg; have ic := cb.1; have iG := bP.1; have ie := cd.1; have iH := bQ.1; have ig := ce.1; have iI := bR.1; have ii := cf.1; have iJ := bS.1; have iT := cf5 aQ.1))
 (try simp only [Act.put, List.setIfInBounds_toArray, List.set_cons_zero, List.set_cons_succ])
 go_cut [143] (fun gi wc => ∃ (kq : Nat) (bX : Bool), gi = .bool bX ∧ Aside0 (petrinetlaw43_WorkflowCloses.j1 kq bC cu b9 bX bu aG ab bK aq ac b4 aO aP = some r) ∧ Aside0 (kq ≤ gf) ∧ Aside0 (Kd.R (Kd.int .i64) 3 wc w.heap.size (fun _ => True) cv bC) ∧ Aside0 (Kd.V k52 52 wc w.heap.size (fun k_ => some k_ ≠ (cv : Value).ownBlock ∧ some k_ ≠ ((.slice a4 aq.length a5) : Value).ownBlock ∧ some k_ ≠ ((.slice (some aM) ac.length aN) : Value).ownBlock ∧ some k_ ≠ ((.slice bc aO.length bf) : Value).ownBlock ∧ some k_ ≠ ((.slice bd aP.length bg) : Value).ownBlock ∧ k_ ≠ ao ∧ k_ ≠ ap ∧ k_ ≠ aD ∧ k_ ≠ aF) (.slice cy aG.length b7) aG) ∧ Aside0 (Kd.V k48 48 wc w.heap.size (fun k_ => some k_ ≠ (cv : Value).ownBlock ∧ some k_ ≠ ((.slice a4 aq.length a5) : Value).ownBlock ∧ some k_ ≠ ((.slice (some aM) ac.length aN) : Value).ownBlock ∧ some k_ ≠ ((.slice bc aO.length bf) : Value).ownBlock ∧ some k_ ≠ ((.slice bd aP.length bg) : Value).ownBlock ∧ k_ ≠ ao ∧ k_ ≠ ap ∧ k_ ≠ aD ∧ k_ ≠ aF) (.slice cz ab.length b8) ab) ∧ Aside0 (Kd.R k52 52 wc w.heap.size (fun k_ => some k_ ≠ ((.slice bc aO.length bf) : Value).ownBlock) (.slice a4 aq.length a5) aq) ∧ Aside0 (Kd.S k48 48 wc w.heap.size (fun k_ => some k_ ≠ ((.slice bd aP.length bg) : Value).ownBlock) (.slice (some aM) ac.length aN) ac) ∧ Aside0 (Kd.R k52 52 wc w.heap.size (fun k_ => some k_ ≠ ((.slice a4 aq.length a5) : Value).ownBlock) (.slice bc aO.length bf) aO) ∧ Aside0 (Kd.S k48 48 wc w.heap.size (fun k_ => some k_ ≠ ((.slice (some aM) ac.length aN) : Value).ownBlock) (.slice bd aP.length bg) aP) ∧ Aside0 (wc.heap[ao]? = some (.cells #[.string bB, (.slice bY br.length b2), (.slice bZ bs.length b3)] 25 (0, 0))) ∧ Aside0 (wc.heap[ap]? = some (.cells #[.string bu, (.slice cy aG.length b7), (.slice cz ab.length b8)] 25 (0, 0))) ∧ Aside0 (wc.heap[aD]? = some (.cells #[.string bK, (.slice a4 aq.length a5), (.slice (some aM) ac.length aN)] 25 (0, 0))) ∧ Aside0 (wc.heap[aF]? = some (.cells #[.string b4, (.slice bc aO.length bf), (.slice bd aP.length bg)] 25 (0, 0))) ∧ Aside0 (Kd.C k55 wc cM ((rd_T48 ac (ab.length : Int)).f1).length ((rd_T48 ac (ab.length : Int)).f1)) ∧ Aside0 (Kd.C k55 wc cg ((rd_T48 ac (ab.length : Int)).f2).length ((rd_T48 ac (ab.length : Int)).f2)) ∧ Aside0 (Kd.C k55 wc bN ((rd_T48 ac (ab.length : Int)).f3).length ((rd_T48 ac (ab.length : Int)).f3)) ∧ Aside0 (Below w.heap.size w wc))
 case first =>
  have H := dZ.1
  clear dZ
  replace H := ifp H
  obtain ⟨ev, H⟩ := H
  have cB : (((rd_T48 ac (ab.length : Int)).f0).toList == ([95, 99, 108, 111, 115, 101] : List UInt8)) = true := beq_iff_eq.mpr ev
  have dG : (((rd_T48 ac (ab.length : Int)).f0).toList != ([95, 99, 108, 111, 115, 101] : List UInt8)) = false := bne_eq_false_iff_eq.mpr ev
  clear ev
  (first | rw [cB] | (simp only [i64_w, i32_w]; rw [cB]) | skip)
  replace H := ifp H
  obtain ⟨ew, H⟩ := H
  have dH : ((((rd_T48 ac (ab.length : Int)).f1).length : Int) == 1) = true := beq_iff_eq.mpr ew
  have dI : ((((rd_T48 ac (ab.length : Int)).f1).length : Int) != 1) = false := bne_eq_false_iff_eq.mpr ew
  clear ew
  replace H := ifp H
  obtain ⟨eQ, H⟩ := H
  have dJ := decide_eq_true eQ
  have dK : decide (0 < ((rd_T48 ac (ab.length : Int)).f1).length) = true := decide_eq_true (by omega)
  clear eQ
  by_cases eg : (!(((rd_T55 ((rd_T48 ac (ab.length : Int)).f1) 0).f0) == b9) || (!(((rd_T55 ((rd_T48 ac (ab.length : Int)).f1) 0).f1) == 1))) = true
  ·rw [if_pos eg] at H
   exact absurd H (by simp)
  rw [if_neg eg] at H
  have dL : (!(((rd_T55 ((rd_T48 ac (ab.length : Int)).f1) 0).f0) == b9) || (!(((rd_T55 ((rd_T48 ac (ab.length : Int)).f1) 0).f1) == 1))) = false := by simpa using eg
  clear eg
  replace H := ifp H
  obtain ⟨ex, H⟩ := H
  have dM : ((((rd_T48 ac (ab.length : Int)).f2).length : Int) == 1) = true := beq_iff_eq.mpr ex
  have dN : ((((rd_T48 ac (ab.length : Int)).f2).length : Int) != 1) = false := bne_eq_false_iff_eq.mpr ex
  clear ex
  replace H := ifp H
  obtain ⟨eR, H⟩ := H
  have dO := decide_eq_true eR
  have dP : decide (0 < ((rd_T48 ac (ab.length : Int)).f2).length) = true := decide_eq_true (by omega)
  clear eR
  have H' := am H
  clear H
  have ij := cb.1
  have iK := bP.1
  have ik := cd.1
  have iL := bQ.1
  have il := ce.1
  have iM := bR.1
  have im := cf.1
  have iN := bS.1
  have iU := cf5 aQ.1
  have dh : 0 ≤ (0 : Int) := (by omega)
  have dj : 0 < (((rd_T48 ac (ab.length : Int)).f1).length : Int) := dq
  obtain ⟨bE, fp, aw, ax⟩ := at_T55 ((Kd.R_reads' aX.1).2.2) 0 dh dj
  cases fp
  have iP : (0 < ((rd_T48 ac (ab.length : Int)).f1).length) = True := eq_true (by omega)
  (try rw [show ((0 : Int)).toNat = 0 from rfl] at aw)
  (try rw [show 0 * 2 = 0 from rfl] at aw)
  (try rw [Addr.add_zero'] at aw)
  (try rw [show ((0 : Int)).toNat = 0 from rfl] at ax)
  (try rw [show 0 * 2 = 0 from rfl] at ax)
  (try rw [Addr.add_zero'] at ax)
  have bh : bE.block ≠ ah := Kd.own_blk (Kd.R_ne aX.1 aQ.1 (by decide))
  have bi : bE.block ≠ ah := Kd.own_blk (Kd.R_ne aX.1 aQ.1 (by decide))
  have bj : bE.block ≠ ah := Kd.own_blk (Kd.R_ne aX.1 aQ.1 (by decide))
  have bk : bE.block ≠ ah := Kd.own_blk (Kd.R_ne aX.1 aQ.1 (by decide))
  have bl : bE.block ≠ ah := Kd.own_blk (Kd.R_ne aX.1 aQ.1 (by decide))
  replace aw := (cell_far (p := ⟨ah, 0, none⟩) (by first | (rw [add_block]; exact bh) | (show (Addr.add _ _).block ≠ _; rw [add_block]; exact bh) | exact bh) (.string ((rd_T48 ac (ab.length : Int)).f0))).trans aw
  replace ax := (cell_far (p := ⟨ah, 0, none⟩) (by first | (rw [add_block]; exact bh) | (show (Addr.add _ _).block ≠ _; rw [add_block]; exact bh) | exact bh) (.string ((rd_T48 ac (ab.length : Int)).f0))).trans ax
  replace aw := (cell_far (p := ⟨ah, 1, none⟩) (by first | (rw [add_block]; exact bi) | (show (Addr.add _ _).block ≠ _; rw [add_block]; exact bi) | exact bi) (.slice (some bE) ((rd_T48 ac (ab.length : Int)).f1).length ci)).trans aw
  replace ax := (cell_far (p := ⟨ah, 1, none⟩) (by first | (rw [add_block]; exact bi) | (show (Addr.add _ _).block ≠ _; rw [add_block]; exact bi) | exact bi) (.slice (some bE) ((rd_T48 ac (ab.length : Int)).f1).length ci)).trans ax
  replace aw := (cell_far (p := ⟨ah, 2, none⟩) (by first | (rw [add_block]; exact bj) | (show (Addr.add _ _).block ≠ _; rw [add_block]; exact bj) | exact bj) (.slice cg ((rd_T48 ac (ab.length : Int)).f2).length cj)).trans aw
  replace ax := (cell_far (p := ⟨ah, 2, none⟩) (by first | (rw [add_block]; exact bj) | (show (Addr.add _ _).block ≠ _; rw [add_block]; exact bj) | exact bj) (.slice cg ((rd_T48 ac (ab.length : Int)).f2).length cj)).trans ax
  replace aw := (cell_far (p := ⟨ah, 3, none⟩) (by first | (rw [add_block]; exact bk) | (show (Addr.add _ _).block ≠ _; rw [add_block]; exact bk) | exact bk) (.slice bN ((rd_T48 ac (ab.length : Int)).f3).length ck)).trans aw
  replace ax := (cell_far (p := ⟨ah, 3, none⟩) (by first | (rw [add_block]; exact bk) | (show (Addr.add _ _).block ≠ _; rw [add_block]; exact bk) | exact bk) (.slice bN ((rd_T48 ac (ab.length : Int)).f3).length ck)).trans ax
  replace aw := (cell_far (p := ⟨ah, 4, none⟩) (by first | (rw [add_block]; exact bl) | (show (Addr.add _ _).block ≠ _; rw [add_block]; exact bl) | exact bl) (.int .i64 ((rd_T48 ac (ab.length : Int)).f4))).trans aw
  replace ax := (cell_far (p := ⟨ah, 4, none⟩) (by first | (rw [add_block]; exact bl) | (show (Addr.add _ _).block ≠ _; rw [add_block]; exact bl) | exact bl) (.int .i64 ((rd_T48 ac (ab.length : Int)).f4))).trans ax
  clear bh bi bj bk bl
  replace dh := eq_true dh
  replace dj := eq_true dj
  have di : 0 ≤ (0 : Int) := (by omega)
  have dk : 0 < (((rd_T48 ac (ab.length : Int)).f2).length : Int) := dq
  obtain ⟨b1, fq, ay, az⟩ := at_T55 ((Kd.R_reads' aY.1).2.2) 0 di dk
  cases fq
  have iQ : (0 < ((rd_T48 ac (ab.length : Int)).f2).length) = True := eq_true (by omega)
  (try rw [show ((0 : Int)).toNat = 0 from rfl] at ay)
  (try rw [show 0 * 2 = 0 from rfl] at ay)
  (try rw [Addr.add_zero'] at ay)
  (try rw [show ((0 : Int)).toNat = 0 from rfl] at az)
  (try rw [show 0 * 2 = 0 from rfl] at az)
  (try rw [Addr.add_zero'] at az)
  have bm : b1.block ≠ ah := Kd.own_blk (Kd.R_ne aY.1 aQ.1 (by decide))
  have bn : b1.block ≠ ah := Kd.own_blk (Kd.R_ne aY.1 aQ.1 (by decide))
  have bo : b1.block ≠ ah := Kd.own_blk (Kd.R_ne aY.1 aQ.1 (by decide))
  have bp : b1.block ≠ ah := Kd.own_blk (Kd.R_ne aY.1 aQ.1 (by decide))
  have bq : b1.block ≠ ah := Kd.own_blk (Kd.R_ne aY.1 aQ.1 (by decide))
  replace ay := (cell_far (p := ⟨ah, 0, none⟩) (by first | (rw [add_block]; exact bm) | (show (Addr.add _ _).block ≠ _; rw [add_block]; exact bm) | exact bm) (.string ((rd_T48 ac (ab.length : Int)).f0))).trans ay
  replace az := (cell_far (p := ⟨ah, 0, none⟩) (by first | (rw [add_block]; exact bm) | (show (Addr.add _ _).block ≠ _; rw [add_block]; exact bm) | exact bm) (.string ((rd_T48 ac (ab.length : Int)).f0))).trans az
  replace ay := (cell_far (p := ⟨ah, 1, none⟩) (by first | (rw [add_block]; exact bn) | (show (Addr.add _ _).block ≠ _; rw [add_block]; exact bn) | exact bn) (.slice (some bE) ((rd_T48 ac (ab.length : Int)).f1).length ci)).trans ay
  replace az := (cell_far (p := ⟨ah, 1, none⟩) (by first | (rw [add_block]; exact bn) | (show (Addr.add _ _).block ≠ _; rw [add_block]; exact bn) | exact bn) (.slice (some bE) ((rd_T48 ac (ab.length : Int)).f1).length ci)).trans az
  replace ay := (cell_far (p := ⟨ah, 2, none⟩) (by first | (rw [add_block]; exact bo) | (show (Addr.add _ _).block ≠ _; rw [add_block]; exact bo) | exact bo) (.slice (some b1) ((rd_T48 ac (ab.length : Int)).f2).length cj)).trans ay
  replace az := (cell_far (p := ⟨ah, 2, none⟩) (by first | (rw [add_block]; exact bo) | (show (Addr.add _ _).block ≠ _; rw [add_block]; exact bo) | exact bo) (.slice (some b1) ((rd_T48 ac (ab.length : Int)).f2).length cj)).trans az
  replace ay := (cell_far (p := ⟨ah, 3, none⟩) (by first | (rw [add_block]; exact bp) | (show (Addr.add _ _).block ≠ _; rw [add_block]; exact bp) | exact bp) (.slice bN ((rd_T48 ac (ab.length : Int)).f3).length ck)).trans ay
  replace az := (cell_far (p := ⟨ah, 3, none⟩) (by first | (rw [add_block]; exact bp) | (show (Addr.add _ _).block ≠ _; rw [add_block]; exact bp) | exact bp) (.slice bN ((rd_T48 ac (ab.length : Int)).f3).length ck)).trans az
  replace ay := (cell_far (p := ⟨ah, 4, none⟩) (by first | (rw [add_block]; exact bq) | (show (Addr.add _ _).block ≠ _; rw [add_block]; exact bq) | exact bq) (.int .i64 ((rd_T48 ac (ab.length : Int)).f4))).trans ay
  replace az := (cell_far (p := ⟨ah, 4, none⟩) (by first | (rw [add_block]; exact bq) | (show (Addr.add _ _).block ≠ _; rw [add_block]; exact bq) | exact bq) (.int .i64 ((rd_T48 ac (ab.length : Int)).f4))).trans az
  clear bm bn bo bp bq
  replace di := eq_true di
  replace dk := eq_true dk
  go_wp2
  go_meet
  case rel => exact ⟨_, ((!(((rd_T55 ((rd_T48 ac (ab.length : Int)).f2) 0).f0) == cu) || (!(((rd_T55 ((rd_T48 ac (ab.length : Int)).f2) 0).f1) == 1)))), prs, H', ⟨by have := d0.1; first | omega | exact Nat.le_refl _⟩, ⟨by (with_reducible repeat (first | apply Kd.R_alloc | apply Kd.R_drewN | apply Kd.R_drew)); exact Kd.R_mono (fR5 ah (Kd.R_types b0.1 aQ.1 (by decide)) (fun _ hk => hk.2)) (fun _ hk => trivial)⟩, ⟨by (with_reducible repeat (first | apply Kd.V_alloc | apply Kd.V_drewN | apply Kd.V_drew)); exact Kd.V_mono (fV5 ah (Kd.V_mono aR.1 (fun k_ hk => (⟨hk, hk.2⟩ : _ ∧ k_ ≠ ah))) (fun _ hk => hk.2)) (fun _ hk => ⟨hk.1.1.1, ⟨hk.1.1.2.1, ⟨hk.1.1.2.2.1, ⟨hk.1.1.2.2.2.1, ⟨hk.1.1.2.2.2.2.1, ⟨hk.1.1.2.2.2.2.2.1, ⟨hk.1.1.2.2.2.2.2.2.1, ⟨hk.1.1.2.2.2.2.2.2.2.1, hk.1.1.2.2.2.2.2.2.2.2⟩⟩⟩⟩⟩⟩⟩⟩)⟩, ⟨by (with_reducible repeat (first | apply Kd.V_alloc | apply Kd.V_drewN | apply Kd.V_drew)); exact Kd.V_mono (fV5 ah (Kd.V_mono aS.1 (fun k_ hk => (⟨hk, hk.2⟩ : _ ∧ k_ ≠ ah))) (fun _ hk => hk.2)) (fun _ hk => ⟨hk.1.1.1, ⟨hk.1.1.2.1, ⟨hk.1.1.2.2.1, ⟨hk.1.1.2.2.2.1, ⟨hk.1.1.2.2.2.2.1, ⟨hk.1.1.2.2.2.2.2.1, ⟨hk.1.1.2.2.2.2.2.2.1, ⟨hk.1.1.2.2.2.2.2.2.2.1, hk.1.1.2.2.2.2.2.2.2.2⟩⟩⟩⟩⟩⟩⟩⟩)⟩, ⟨by (with_reducible repeat (first | apply Kd.R_alloc | apply Kd.R_drewN | apply Kd.R_drew)); exact Kd.R_mono (fR5 ah (Kd.R_types av.1 aQ.1 (by decide)) (fun _ hk => hk.2)) (fun _ hk => hk.1)⟩, ⟨by (with_reducible repeat (first | apply Kd.S_alloc | apply Kd.S_drewN | apply Kd.S_drew)); exact Kd.S_mono (fS5 ah (Kd.S_mono al.1 (fun k_ hk => (⟨hk, hk.2⟩ : _ ∧ k_ ≠ ah))) (fun _ hk => hk.2)) (fun _ hk => hk.1.1)⟩, ⟨by (with_reducible repeat (first | apply Kd.R_alloc | apply Kd.R_drewN | apply Kd.R_drew)); exact Kd.R_mono (fR5 ah (Kd.R_types aH.1 aQ.1 (by decide)) (fun _ hk => hk.2)) (fun _ hk => hk.1)⟩, ⟨by (with_reducible repeat (first | apply Kd.S_alloc | apply Kd.S_drewN | apply Kd.S_drew)); exact Kd.S_mono (fS5 ah (Kd.S_mono aI.1 (fun k_ hk => (⟨hk, hk.2⟩ : _ ∧ k_ ≠ ah))) (fun _ hk => hk.2)) (fun _ hk => hk.1.1)⟩, ⟨by (with_reducible repeat (first | refine blk_drewN ?_ _ | refine blk_drew ?_ | refine blk_alloc ?_ _)); refine bf5 ?_ bP.1; exact pbk aa.1⟩, ⟨by (with_reducible repeat (first | refine blk_drewN ?_ _ | refine blk_drew ?_ | refine blk_alloc ?_ _)); refine bf5 ?_ bQ.1; exact pbk ae.1⟩, ⟨by (with_reducible repeat (first | refine blk_drewN ?_ _ | refine blk_drew ?_ | refine blk_alloc ?_ _)); refine bf5 ?_ bR.1; exact pbk ai.1⟩, ⟨by (with_reducible repeat (first | refine blk_drewN ?_ _ | refine blk_drew ?_ | refine blk_alloc ?_ _)); refine bf5 ?_ bS.1; exact pbk au.1⟩, ⟨(Kd.R_reads' (by (with_reducible repeat (first | apply Kd.R_alloc | apply Kd.R_drewN | apply Kd.R_drew)); exact (Kd.R_mono (fR5 ah (Kd.R_types aX.1 aQ.1 (by decide)) (fun _ hk => hk.2)) (fun _ h_ => h_.1)))).2.2⟩, ⟨(Kd.R_reads' (by (with_reducible repeat (first | apply Kd.R_alloc | apply Kd.R_drewN | apply Kd.R_drew)); exact (Kd.R_mono (fR5 ah (Kd.R_types aY.1 aQ.1 (by decide)) (fun _ hk => hk.2)) (fun _ h_ => h_.1)))).2.2⟩, ⟨(Kd.R_reads' (by (with_reducible repeat (first | apply Kd.R_alloc | apply Kd.R_drewN | apply Kd.R_drew)); exact (Kd.R_mono (fR5 ah (Kd.R_types ch.1 aQ.1 (by decide)) (fun _ hk => hk.2)) (fun _ h_ => h_.1)))).2.2⟩, ⟨pbg⟩⟩
 clear dZ
 try clear c3 c5 c7 dp dr ed cx cU ee cV cW gN gO gP gQ ef cX cY dB cZ da db eP dC dD eu dE dF ev cB dG ew dH dI eQ dJ dK eg dL ex dM dN eR dO dP gp gq gr gs gu gv gw gx gy gz gA gB iR iS iT iU cq bT bU bV cr aw ax ay az cJ dh di cK dj dk
 obtain ⟨kq, bX, rfl, HA, en, b0, aR, aS, av, al, aH, aI, aa, ae, ai, au, a8, a9, ba, HB⟩ := hcut
 obtain _ | eG := kq
 ·exact absurd HA.1 (by simp [petrinetlaw43_WorkflowCloses.j1])
 have H := HA.1
 clear HA
 simp only [petrinetlaw43_WorkflowCloses.j1] at H
 cases bX
 rotate_left
 ·rw [if_pos rfl] at H
  exact absurd H (by simp)
 rw [if_neg Bool.false_ne_true] at H
 have H' := am H
 clear H
 go_wp2
 go_loopg [16] eG (fun kq jf w' => ∃ (aj : Int), jf = .int .i64 aj ∧ Aside0 (petrinetlaw43_WorkflowCloses.l0 kq bC cu b9 aj bu aG ab bK aq ac b4 aO aP = some r) ∧ Aside0 (kq ≤ eG) ∧ Aside0 (Kd.R (Kd.int .i64) 3 w' w.heap.size (fun _ => True) cv bC) ∧ Aside0 (Kd.V k52 52 w' w.heap.size (fun k_ => some k_ ≠ (cv : Value).ownBlock ∧ some k_ ≠ ((.slice a4 aq.length a5) : Value).ownBlock ∧ some k_ ≠ ((.slice (some aM) ac.length aN) : Value).ownBlock ∧ some k_ ≠ ((.slice bc aO.length bf) : Value).ownBlock ∧ some k_ ≠ ((.slice bd aP.length bg) : Value).ownBlock ∧ k_ ≠ ao ∧ k_ ≠ ap ∧ k_ ≠ aD ∧ k_ ≠ aF) (.slice cy aG.length b7) aG) ∧ Aside0 (Kd.V k48 48 w' w.heap.size (fun k_ => some k_ ≠ (cv : Value).ownBlock ∧ some k_ ≠ ((.slice a4 aq.length a5) : Value).ownBlock ∧ some k_ ≠ ((.slice (some aM) ac.length aN) : Value).ownBlock ∧ some k_ ≠ ((.slice bc aO.length bf) : Value).ownBlock ∧ some k_ ≠ ((.slice bd aP.length bg) : Value).ownBlock ∧ k_ ≠ ao ∧ k_ ≠ ap ∧ k_ ≠ aD ∧ k_ ≠ aF) (.slice cz ab.length b8) ab) ∧ Aside0 (Kd.R k52 52 w' w.heap.size (fun k_ => some k_ ≠ ((.slice bc aO.length bf) : Value).ownBlock) (.slice a4 aq.length a5) aq) ∧ Aside0 (Kd.S k48 48 w' w.heap.size (fun k_ => some k_ ≠ ((.slice bd aP.length bg) : Value).ownBlock) (.slice (some aM) ac.length aN) ac) ∧ Aside0 (Kd.R k52 52 w' w.heap.size (fun k_ => some k_ ≠ ((.slice a4 aq.length a5) : Value).ownBlock) (.slice bc aO.length bf) aO) ∧ Aside0 (Kd.S k48 48 w' w.heap.size (fun k_ => some k_ ≠ ((.slice (some aM) ac.length aN) : Value).ownBlock) (.slice bd aP.length bg) aP) ∧ Aside0 (w'.heap[ao]? = some (.cells #[.string bB, (.slice bY br.length b2), (.slice bZ bs.length b3)] 25 (0, 0))) ∧ Aside0 (w'.heap[ap]? = some (.cells #[.string bu, (.slice cy aG.length b7), (.slice cz ab.length b8)] 25 (0, 0))) ∧ Aside0 (w'.heap[aD]? = some (.cells #[.string bK, (.slice a4 aq.length a5), (.slice (some aM) ac.length aN)] 25 (0, 0))) ∧ Aside0 (w'.heap[aF]? = some (.cells #[.string b4, (.slice bc aO.length bf), (.slice bd aP.length bg)] 25 (0, 0))) ∧ Aside0 (Kd.C k55 w' cM ((rd_T48 ac (ab.length : Int)).f1).length ((rd_T48 ac (ab.length : Int)).f1)) ∧ Aside0 (Kd.C k55 w' cg ((rd_T48 ac (ab.length : Int)).f2).length ((rd_T48 ac (ab.length : Int)).f2)) ∧ Aside0 (Kd.C k55 w' bN ((rd_T48 ac (ab.length : Int)).f3).length ((rd_T48 ac (ab.length : Int)).f3)) ∧ Aside0 (Below w.heap.size w w'))
 case atStart => exact ⟨(0), prs, H', ⟨Nat.le_refl _⟩, ⟨pkr b0.1⟩, ⟨pkv aR.1⟩, ⟨pkv aS.1⟩, ⟨pkr av.1⟩, ⟨pks al.1⟩, ⟨pkr aH.1⟩, ⟨pks aI.1⟩, ⟨pbk aa.1⟩, ⟨pbk ae.1⟩, ⟨pbk ai.1⟩, ⟨pbk au.1⟩, ⟨by repeat (first | (with_reducible exact a8.1) | (with_reducible refine Kd.C_alloc ?_ _) | (with_reducible refine Kd.C_drewN ?_ _) | (with_reducible refine Kd.C_drew ?_) | exact a8.1)⟩, ⟨by repeat (first | (with_reducible exact a9.1) | (with_reducible refine Kd.C_alloc ?_ _) | (with_reducible refine Kd.C_drewN ?_ _) | (with_reducible refine Kd.C_drew ?_) | exact a9.1)⟩, ⟨by repeat (first | (with_reducible exact ba.1) | (with_reducible refine Kd.C_alloc ?_ _) | (with_reducible refine Kd.C_drewN ?_ _) | (with_reducible refine Kd.C_drew ?_) | exact ba.1)⟩, ⟨pbg⟩⟩
 clear H'
 try clear c3 c5 c7 dp dr ed cx cU ee cV cW gN gO gP gQ ef cX cY dB cZ da db jB eP dC dD eu dE dF ev cB dG ew dH dI eQ dJ dK eg dL ex dM dN eR dO dP gp gq gr gs gu gv gw gx gy gz gA gB iR iS iT iU cq bT bU bV cr aw ax ay az cJ dh di cK dj dk
 obtain ⟨aj, rfl, HA, gK, b0, aR, aS, av, al, aH, aI, aa, ae, ai, au, a8, a9, ba, HB⟩ := hrel
 obtain _ | k3 := gk
 ·exact absurd HA.1 (by simp [petrinetlaw43_WorkflowCloses.l0])
 have H := HA.1
 clear HA
 simp only [petrinetlaw43_WorkflowCloses.l0] at H
 replace H := ifl H
 rcases H with ⟨ey, H⟩ | ⟨ey, H⟩
 ·replace H := ifp H
  obtain ⟨gR, H⟩ := H
  have gS := decide_eq_true gR
  clear gR
  by_cases eh : ((((rd_T52 aq aj).f1) == 1) != (aj == cu)) = true
  ·rw [if_pos eh] at H
   exact absurd H (by simp)
  rw [if_neg eh] at H
  have gT : ((((rd_T52 aq aj).f1) == 1) != (aj == cu)) = false := by simpa using eh
  (try (have gU : decide ((((rd_T52 aq aj).f1) == 1) = (aj == cu)) = true := by simpa using eh))
  (try (have gV : ((((rd_T52 aq aj).f1) == 1) == (aj == cu)) = true := by simpa using eh))
  clear eh
  by_cases eS : ((rd_T52 aq aj).f1) < 0
  ·rw [if_pos eS] at H
   exact absurd H (by simp)
  rw [if_neg eS] at H
  have gW : decide (((rd_T52 aq aj).f1) < 0) = false := decide_eq_false eS
  clear eS
  by_cases eT : ((rd_T52 aq aj).f1) > 1
  ·rw [if_pos eT] at H
   exact absurd H (by simp)
  rw [if_neg eT] at H
  have gX : decide (1 < ((rd_T52 aq aj).f1)) = false := decide_eq_false eT
  clear eT
  replace H := ifp H
  obtain ⟨et, H⟩ := H
  have fd := decide_eq_true et
  clear et
  by_cases cI : (((rd bC aj) == 1) != (aj == b9)) = true
  ·rw [if_pos cI] at H
   exact absurd H (by simp)
  rw [if_neg cI] at H
  have fe : (((rd bC aj) == 1) != (aj == b9)) = false := by simpa using cI
  (try (have ff : decide (((rd bC aj) == 1) = (aj == b9)) = true := by simpa using cI))
  (try (have fg : (((rd bC aj) == 1) == (aj == b9)) = true := by simpa using cI))
  clear cI
  by_cases dm : (rd bC aj) < 0
  ·rw [if_pos dm] at H
   exact absurd H (by simp)
  rw [if_neg dm] at H
  have fh : decide ((rd bC aj) < 0) = false := decide_eq_false dm
  clear dm
  by_cases dn : (rd bC aj) > 1
  ·rw [if_pos dn] at H
   exact absurd H (by simp)
  rw [if_neg dn] at H
  have fi : decide (1 < (rd bC aj)) = false := decide_eq_false dn
  clear dn
  have H' := am H
  clear H
  have fG := aT.1
  have fT := aJ.1
  have fH := aU.1
  have fU := aL.1
  have fI := aZ.1
  have fV := a3.1
  have js := cf3 ai.1
  obtain ⟨i3, i9, dx, ft, eU, eV, eW⟩ := dT52 (Kd.R_reads' av.1).2.2 aj
  cases ft
  obtain ⟨i4, ja, ep, fu, eX, eY, eZ⟩ := dT52 (Kd.R_reads' av.1).2.2 aj
  obtain rfl : dx = ep := (by injection fu)
  obtain ⟨i5, jb, eq, fv, e0, e4, e5⟩ := dT52 (Kd.R_reads' av.1).2.2 aj
  obtain rfl : dx = eq := (by injection fv)
  obtain ⟨gD, gZ, ez⟩ := Kd.R_slice b0.1
  subst ez
  obtain ⟨i6, jc, dy, fw, e6⟩ := dint (Kd.R_reads' b0.1).2.2 aj
  cases fw
  obtain ⟨i7, jd, er, fx, e7⟩ := dint (Kd.R_reads' b0.1).2.2 aj
  obtain rfl : dy = er := (by injection fx)
  obtain ⟨i8, je, es, fy, e8⟩ := dint (Kd.R_reads' b0.1).2.2 aj
  obtain rfl : dy = es := (by injection fy)
  go_wp2
  go_roundg k3
  case measure => have := d0.1; have := en.1; have := gK.1; omega
  case rel => exact ⟨(wrap64 (aj + 1)), prs, H', ⟨by have := d0.1; have := en.1; have := gK.1; omega⟩, ⟨pkr b0.1⟩, ⟨pkv aR.1⟩, ⟨pkv aS.1⟩, ⟨pkr av.1⟩, ⟨pks al.1⟩, ⟨pkr aH.1⟩, ⟨pks aI.1⟩, ⟨pbk aa.1⟩, ⟨pbk ae.1⟩, ⟨pbk ai.1⟩, ⟨pbk au.1⟩, ⟨by repeat (first | (with_reducible exact a8.1) | (with_reducible refine Kd.C_alloc ?_ _) | (with_reducible refine Kd.C_drewN ?_ _) | (with_reducible refine Kd.C_drew ?_) | exact a8.1)⟩, ⟨by repeat (first | (with_reducible exact a9.1) | (with_reducible refine Kd.C_alloc ?_ _) | (with_reducible refine Kd.C_drewN ?_ _) | (with_reducible refine Kd.C_drew ?_) | exact a9.1)⟩, ⟨by repeat (first | (with_reducible exact ba.1) | (with_reducible refine Kd.C_alloc ?_ _) | (with_reducible refine Kd.C_drewN ?_ _) | (with_reducible refine Kd.C_drew ?_) | exact ba.1)⟩, ⟨pbg⟩⟩
 replace H := ifp H
 obtain ⟨d1, H⟩ := H
 have fj := eq_true d1
 have fk : decide (0 ≤ (ab.length : Int)) = true := decide_eq_true d1
 clear d1
 replace H := ifp H
 obtain ⟨d2, H⟩ := H
 have fl := eq_true d2
 have fm : decide ((ab.length : Int) ≤ (ac.length : Int)) = true := decide_eq_true d2
 clear d2
 obtain ⟨b5, dg⟩ : ∃ y_ : List (S48), y_ = (ac.take ((ab.length : Int) : Int).toNat) := ⟨_, rfl⟩
 replace H : ((r09_Equal.f k3 bK aq b5 b4 aO aP).bind fun dl => (some dl)) = some r := hrp dg H
 have cS := am dg
 clear dg
 replace H := bnd H
 obtain ⟨dl, fc, H⟩ := H
 (try dsimp only at H)
 obtain rfl := Option.some.inj H
 have fJ := aT.1
 have fW := aJ.1
 have fK := aU.1
 have fX := aL.1
 have fL := aZ.1
 have fY := a3.1
 have jt := cf3 ai.1
 have fM := aK.1
 have fZ := aE.1
 have fN := bb.1
 have f5 := bv.1
 have ju := cf3 ae.1
 have d6 : ((ab.length : Int) : Int) ≤ ((ac.length : Int) : Int) := dq
 obtain ⟨iO, dc, _, d5, _⟩ := info_parts info48
 have hroom119 : ac.length ≤ aN := (Kd.S_reads' al.1).2.1
 have dS : Kd.C k48 _ (some aM) ac.length ac := (Kd.S_reads' al.1).2.2
 have dt := cut_to (P := Try.prog) 23 48 .i64 Try.underlying23 dc (some aM) ac.length aN (ab.length : Int) (dq) d6 hroom119
 have de := Kd.C_take (m := ((ab.length : Int) : Int).toNat) dS (by omega)
 have df : b5.length = ((ab.length : Int) : Int).toNat := (by rw [cS.1, List.length_take]; omega)
 rw [← cS.1] at de
 rw [← df] at dt
 have gL := am de
 have em := am (show b5.length ≤ aN from by omega)
 clear de dS hroom119 dc d5
 have gM := am df
 clear df
 have eo := am (show ((ab.length : Int) : Int).toNat ≤ ac.length from by omega)
 replace d6 := eq_true d6
 have fO := ca.1
 have f6 := bO.1
 have jv := cf3 au.1
 go_upto_region 24 with (fail)
 (try simp only [Act.put, List.setIfInBounds_toArray, List.set_cons_zero, List.set_cons_succ])
 generalize hq_ : World.setCell _ ⟨aD, 2, none⟩ _ = wq_
 have bq1_ : wq_.heap[aD]? = some (.cells #[.string bK, (.slice a4 aq.length a5), (.slice (some aM) b5.length aN)] 25 (0, 0)) := by rw [← hq_]; exact blk_put (cs := #[.string bK, (.slice a4 aq.length a5), (.slice (some aM) ac.length aN)]) ai.1 2 _ rfl
 have bq2_ : wq_.heap[aF]? = some (.cells #[.string b4, (.slice bc aO.length bf), (.slice bd aP.length bg)] 25 (0, 0)) := by rw [← hq_]; exact blk_far au.1 a3.1 _
 have rq1_ := Kd.R_set av.1 ai.1 (by decide) 2 (.slice (some aM) b5.length aN)
 rw [hq_] at rq1_
 have rq2_ := Kd.S_set al.1 ai.1 (by decide) 2 (.slice (some aM) b5.length aN)
 rw [hq_] at rq2_
 have rq3_ := Kd.R_set aH.1 ai.1 (by decide) 2 (.slice (some aM) b5.length aN)
 rw [hq_] at rq3_
 have rq4_ := Kd.S_set aI.1 ai.1 (by decide) 2 (.slice (some aM) b5.length aN)
 rw [hq_] at rq4_
 replace HB := am (show Below w.heap.size w wq_ by rw [← hq_]; exact below_set HB.1 dw.1)
 clear hq_
 obtain ⟨sq1_, sq2_, sq3_, sq4_, sq5_, sq6_⟩ := cf3 bq1_
 obtain ⟨sp1_, sp2_, sp3_, sp4_, sp5_, sp6_⟩ := cf3 bq2_
 have rq5_ : Kd.C k48 wq_ (some aM) b5.length b5 := by rw [cS.1]; exact Kd.C_take (Kd.S_reads' rq2_).2.2 eo.1
 go_wp2_with (first | ((with_reducible refine gate_callee (f := 27) rfl ?_); refine gC 214 Try.func27 _ (r09_Equal.calls k3 bK _ _ aq _ _ b5 b4 _ _ aO _ _ aP dl _ ((Kd.R_reads' rq1_).2.2) ((Kd.R_reads' rq1_).2.1) rq5_ em.1 ((Kd.R_reads' rq3_).2.2) ((Kd.R_reads' rq3_).2.1) ((Kd.S_reads' rq4_).2.2) ((Kd.S_reads' rq4_).2.1) fc.1) ?_; rintro e wr_ ⟨rfl, hb⟩; refine ⟨_, rfl, ?_⟩; replace HB := bst hb; clear hb))
 go_ret
 exact ⟨per, pbg⟩

end Go.Proofs.Ytnoebjmhimehcaa.P
