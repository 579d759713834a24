-- LAID BY OUR PROGRAM OVER THE PRINT (xprint.py, part.py): Lean checks it.
import Derived.Test.YtplljicodflagaaPx0
import Derived.Test.YtplljicodflagaaPx1
import Derived.Test.YtplljicodflagaaPx2
import Derived.BigRegion
import Derived.Laws.EntriesVeiled
import Derived.RegionTactic
import Derived.WalkMore
namespace Go.Proofs.Ytplljicodflagaa.P
open Go.RowKit Go.Proofs.YtplljicodflagaaW.PrintWords Go.Proofs.YtplljicodflagaaW.PrintLast Go.Proofs.YtplljicodflagaaW.PrintMore
attribute [local go_sem] max2_int min2_int max_two min_two max_three min_three max_four min_four   -- for this text's walks alone
set_option linter.unusedVariables false
set_option linter.unusedSimpArgs false

/-! ### digraph_Components: function 43 -/
-- IMPORTS Derived.RegionTactic,Derived.BigRegion,Derived.Laws.EntriesVeiled
/-- What the search keeps. -/
structure TS where
 next : Int
 index : List Int
 low : List Int
 out : List Int
 stack : List Int

structure CNe (base Bn Bi Bl Bo Bs gi gl go : Nat) : Prop where
 h1 : gi ≠ gl
 h2 : gi ≠ go
 h3 : gl ≠ go
 h4 : Bn ≠ gi
 h5 : Bn ≠ gl
 h6 : Bn ≠ go
 h7 : Bi ≠ Bl
 h8 : Bi ≠ Bo
 h9 : Bi ≠ Bs
 h10 : Bl ≠ Bo
 h11 : Bl ≠ Bs
 h12 : Bo ≠ Bs
 b1 : base ≤ Bn
 b2 : base ≤ Bs
 b3 : base ≤ gi
 b4 : base ≤ gl
 b5 : base ≤ go
structure CInv (w0 w : World) (Bn Bi Bl Bo Bs Bg Bf gi gl go ci cl co : Nat) (A0 : Option Addr) (c0 : Nat) (g : List (List Int)) (s : TS) : Prop where
 hn : w.heap[Bn]? = some (.cells #[.int .i64 s.next] 3 (0, 0))
 hi : w.heap[Bi]? = some (.cells #[.slice (some ⟨gi, 0, none⟩) g.length ci] 37 (0, 0))
 hl : w.heap[Bl]? = some (.cells #[.slice (some ⟨gl, 0, none⟩) g.length cl] 37 (0, 0))
 ho : w.heap[Bo]? = some (.cells #[.slice (some ⟨go, 0, none⟩) g.length co] 37 (0, 0))
 hs : ∃ vs, w.heap[Bs]? = some (.cells #[vs] 37 (0, 0)) ∧ Kd.R (Kd.int .i64) 3 w w0.heap.size (fun k => (k ≠ gi ∧ k ≠ gl) ∧ k ≠ go ∧ k ≠ Bn) vs s.stack
 hg : w.heap[Bg]? = some (.cells #[.slice A0 g.length c0] 30 (0, 0))
 hf : w.heap[Bf]? = some (.cells #[.func (.func 73) #[] #[.pointer (some ⟨Bn, 0, none⟩), .pointer (some ⟨Bi, 0, none⟩), .pointer (some ⟨Bl, 0, none⟩), .pointer (some ⟨Bo, 0, none⟩), .pointer (some ⟨Bs, 0, none⟩), .pointer (some ⟨Bg, 0, none⟩), .pointer (some ⟨Bf, 0, none⟩)]] 64 (0, 0))
 ri : Kd.R (Kd.int .i64) 3 w w0.heap.size (fun k => k = gi) (.slice (some ⟨gi, 0, none⟩) g.length ci) s.index
 rl : Kd.R (Kd.int .i64) 3 w w0.heap.size (fun k => k = gl) (.slice (some ⟨gl, 0, none⟩) g.length cl) s.low
 ro : Kd.R (Kd.int .i64) 3 w w0.heap.size (fun k => k = go) (.slice (some ⟨go, 0, none⟩) g.length co) s.out
 B : Below w0.heap.size w0 w
section
variable {w0 w w1 : World} {Bn Bi Bl Bo Bs Bg Bf gi gl go ci cl co : Nat} {A0 : Option Addr} {c0 : Nat} {g : List (List Int)} {s : TS}
theorem CInv.below (h : CInv w0 w Bn Bi Bl Bo Bs Bg Bf gi gl go ci cl co A0 c0 g s) (hb : Below w.heap.size w w1) : CInv w0 w1 Bn Bi Bl Bo Bs Bg Bf gi gl go ci cl co A0 c0 g s := by
 obtain ⟨hn, hi, hl, ho, ⟨vs, h1, h2⟩, hg, hf, ri, rl, ro, B⟩ := h
 exact ⟨blk_below hn hb, blk_below hi hb, blk_below hl hb, blk_below ho hb, ⟨vs, blk_below h1 hb, Kd.R_below h2 hb⟩, blk_below hg hb, blk_below hf hb, Kd.R_below ri hb, Kd.R_below rl hb, Kd.R_below ro hb, B.trans (hb.mono B.size)⟩
theorem CInv.setI (h : CInv w0 w Bn Bi Bl Bo Bs Bg Bf gi gl go ci cl co A0 c0 g s) (ne : CNe w0.heap.size Bn Bi Bl Bo Bs gi gl go) (v x : Int) : CInv w0 (w.setCell ⟨gi, v.toNat, none⟩ (.int .i64 x)) Bn Bi Bl Bo Bs Bg Bf gi gl go ci cl co A0 c0 g { s with index := s.index.set v.toNat x } := by
 obtain ⟨hn, hi, hl, ho, ⟨vs, h1, h2⟩, hg, hf, ri, rl, ro, B⟩ := h
 obtain ⟨cells, hb⟩ := R_blk ri
 exact ⟨blk_over hn ne.h4 _, blk_over hi (blk_apart hi hb (by decide)) _, blk_over hl (blk_apart hl hb (by decide)) _, blk_over ho (blk_apart ho hb (by decide)) _, ⟨vs, blk_over h1 (blk_apart h1 hb (by decide)) _, Kd.R_far (p := ⟨gi, v.toNat, none⟩) h2 (fun k hk => hk.1.1) _⟩, blk_over hg (blk_apart hg hb (by decide)) _, blk_over hf (blk_apart hf hb (by decide)) _,
   (Kd.R_putg ri v x).1, Kd.R_far (p := ⟨gi, v.toNat, none⟩) rl (fun k hk => by rw [hk]; exact ne.h1.symm) _, Kd.R_far (p := ⟨gi, v.toNat, none⟩) ro (fun k hk => by rw [hk]; exact ne.h2.symm) _, below_set B ne.b3⟩
theorem CInv.setL (h : CInv w0 w Bn Bi Bl Bo Bs Bg Bf gi gl go ci cl co A0 c0 g s) (ne : CNe w0.heap.size Bn Bi Bl Bo Bs gi gl go) (v x : Int) : CInv w0 (w.setCell ⟨gl, v.toNat, none⟩ (.int .i64 x)) Bn Bi Bl Bo Bs Bg Bf gi gl go ci cl co A0 c0 g { s with low := s.low.set v.toNat x } := by
 obtain ⟨hn, hi, hl, ho, ⟨vs, h1, h2⟩, hg, hf, ri, rl, ro, B⟩ := h
 obtain ⟨cells, hb⟩ := R_blk rl
 exact ⟨blk_over hn ne.h5 _, blk_over hi (blk_apart hi hb (by decide)) _, blk_over hl (blk_apart hl hb (by decide)) _, blk_over ho (blk_apart ho hb (by decide)) _, ⟨vs, blk_over h1 (blk_apart h1 hb (by decide)) _, Kd.R_far (p := ⟨gl, v.toNat, none⟩) h2 (fun k hk => hk.1.2) _⟩, blk_over hg (blk_apart hg hb (by decide)) _, blk_over hf (blk_apart hf hb (by decide)) _,
   Kd.R_far (p := ⟨gl, v.toNat, none⟩) ri (fun k hk => by rw [hk]; exact ne.h1) _, (Kd.R_putg rl v x).1, Kd.R_far (p := ⟨gl, v.toNat, none⟩) ro (fun k hk => by rw [hk]; exact ne.h3.symm) _, below_set B ne.b4⟩
theorem CInv.setO (h : CInv w0 w Bn Bi Bl Bo Bs Bg Bf gi gl go ci cl co A0 c0 g s) (ne : CNe w0.heap.size Bn Bi Bl Bo Bs gi gl go) (v x : Int) : CInv w0 (w.setCell ⟨go, v.toNat, none⟩ (.int .i64 x)) Bn Bi Bl Bo Bs Bg Bf gi gl go ci cl co A0 c0 g { s with out := s.out.set v.toNat x } := by
 obtain ⟨hn, hi, hl, ho, ⟨vs, h1, h2⟩, hg, hf, ri, rl, ro, B⟩ := h
 obtain ⟨cells, hb⟩ := R_blk ro
 exact ⟨blk_over hn ne.h6 _, blk_over hi (blk_apart hi hb (by decide)) _, blk_over hl (blk_apart hl hb (by decide)) _, blk_over ho (blk_apart ho hb (by decide)) _, ⟨vs, blk_over h1 (blk_apart h1 hb (by decide)) _, Kd.R_far (p := ⟨go, v.toNat, none⟩) h2 (fun k hk => hk.2.1) _⟩, blk_over hg (blk_apart hg hb (by decide)) _, blk_over hf (blk_apart hf hb (by decide)) _,
   Kd.R_far (p := ⟨go, v.toNat, none⟩) ri (fun k hk => by rw [hk]; exact ne.h2) _, Kd.R_far (p := ⟨go, v.toNat, none⟩) rl (fun k hk => by rw [hk]; exact ne.h3) _, (Kd.R_putg ro v x).1, below_set B ne.b5⟩
theorem CInv.setN (h : CInv w0 w Bn Bi Bl Bo Bs Bg Bf gi gl go ci cl co A0 c0 g s) (ne : CNe w0.heap.size Bn Bi Bl Bo Bs gi gl go) (x : Int) : CInv w0 (w.setCell ⟨Bn, 0, none⟩ (.int .i64 x)) Bn Bi Bl Bo Bs Bg Bf gi gl go ci cl co A0 c0 g { s with next := x } := by
 obtain ⟨hn, hi, hl, ho, ⟨vs, h1, h2⟩, hg, hf, ri, rl, ro, B⟩ := h
 exact ⟨one_setCell hn, blk_over hi (blk_apart hi hn (by decide)) _, blk_over hl (blk_apart hl hn (by decide)) _, blk_over ho (blk_apart ho hn (by decide)) _, ⟨vs, blk_over h1 (blk_apart h1 hn (by decide)) _, Kd.R_far (p := ⟨Bn, 0, none⟩) h2 (fun k hk => hk.2.2) _⟩, blk_over hg (blk_apart hg hn (by decide)) _, blk_over hf (blk_apart hf hn (by decide)) _,
   Kd.R_far (p := ⟨Bn, 0, none⟩) ri (fun k hk => by rw [hk]; exact ne.h4.symm) _, Kd.R_far (p := ⟨Bn, 0, none⟩) rl (fun k hk => by rw [hk]; exact ne.h5.symm) _, Kd.R_far (p := ⟨Bn, 0, none⟩) ro (fun k hk => by rw [hk]; exact ne.h6.symm) _, below_set B ne.b1⟩
/-- The stack's variable gets a row (already there in the world). -/
theorem CInv.setS {v1 : Value} {st : List Int} (h : CInv w0 w Bn Bi Bl Bo Bs Bg Bf gi gl go ci cl co A0 c0 g s) (ne : CNe w0.heap.size Bn Bi Bl Bo Bs gi gl go) (h1 : Kd.R (Kd.int .i64) 3 w w0.heap.size (fun k => (k ≠ gi ∧ k ≠ gl) ∧ k ≠ go ∧ k ≠ Bn) v1 st) : CInv w0 (w.setCell ⟨Bs, 0, none⟩ v1) Bn Bi Bl Bo Bs Bg Bf gi gl go ci cl co A0 c0 g { s with stack := st } := by
 obtain ⟨hn, hi, hl, ho, ⟨vs, hs, h2⟩, hg, hf, ri, rl, ro, B⟩ := h
 exact ⟨blk_over hn (blk_apart hn hs (by decide)) _, blk_over hi ne.h9 _, blk_over hl ne.h11 _, blk_over ho ne.h12 _, ⟨v1, one_setCell hs, Kd.R_set h1 hs (by decide) _ _⟩, blk_over hg (blk_apart hg hs (by decide)) _, blk_over hf (blk_apart hf hs (by decide)) _, Kd.R_set ri hs (by decide) _ _, Kd.R_set rl hs (by decide) _ _, Kd.R_set ro hs (by decide) _ _, below_set B ne.b2⟩
/-- .. a row that has grown. -/
theorem CInv.push {v v1 : Value} {st : List Int} (h : CInv w0 w Bn Bi Bl Bo Bs Bg Bf gi gl go ci cl co A0 c0 g s) (ne : CNe w0.heap.size Bn Bi Bl Bo Bs gi gl go) (hT : Kd.R (Kd.int .i64) 3 w w0.heap.size (fun k => (k ≠ gi ∧ k ≠ gl) ∧ k ≠ go ∧ k ≠ Bn) v s.stack)
   (h1 : Kd.R (Kd.int .i64) 3 w1 w0.heap.size (fun k => (k ≠ gi ∧ k ≠ gl) ∧ k ≠ go ∧ k ≠ Bn) v1 st) (hb : Below w0.heap.size w0 w1) (hg : w.grownBy w1 v.ownBlock) :
   CInv w0 (w1.setCell ⟨Bs, 0, none⟩ v1) Bn Bi Bl Bo Bs Bg Bf gi gl go ci cl co A0 c0 g { s with stack := st } ∧ w1.cell? ⟨Bs, 0, none⟩ ≠ none ∧ w1.frozen? ⟨Bs, 0, none⟩ = false := by
 obtain ⟨hn, hi, hl, ho, ⟨vs, hs, h2⟩, hg', hf, ri, rl, ro, B⟩ := h
 have nb : ∀ b o, w.heap[b]? = some o → (∀ k, ((k ≠ gi ∧ k ≠ gl) ∧ k ≠ go ∧ k ≠ Bn) → k ≠ b) → w1.heap[b]? = some o := fun b o hb' hk => (hg.block b (lt_of_block hb') (fun he => hk b (hT.1 b he.symm) rfl)).trans hb'
 have ty : ∀ k, v.ownBlock = some k → ∃ cells, w.heap[k]? = some (.cells cells 3 (0, 0)) := Kd.R_typed hT
 have e1 := grown_blk hs ty (by decide) hg
 have far : ∀ {b cap : Nat} {xs : List Int}, (∀ k, ((k ≠ gi ∧ k ≠ gl) ∧ k ≠ go ∧ k ≠ Bn) → k ≠ b) → Kd.R (Kd.int .i64) 3 w w0.heap.size (fun k => k = b) (.slice (some ⟨b, 0, none⟩) g.length cap) xs → Kd.R (Kd.int .i64) 3 w1 w0.heap.size (fun k => k = b) (.slice (some ⟨b, 0, none⟩) g.length cap) xs := fun hk hr => Kd.R_grown hr hg (fun k hkb he => hk k (hT.1 k he.symm) hkb)
 have X : CInv w0 w1 Bn Bi Bl Bo Bs Bg Bf gi gl go ci cl co A0 c0 g { s with stack := st } → True := fun _ => trivial
 refine ⟨⟨?_, ?_, ?_, ?_, ⟨v1, one_setCell e1, Kd.R_set h1 e1 (by decide) _ _⟩, ?_, ?_, ?_, ?_, ?_, below_set hb ne.b2⟩, by rw [cell_of_one e1]; simp, free_of_one e1⟩
 · have e := nb Bn _ hn (fun k hk => hk.2.2)
   exact blk_over e (blk_apart e e1 (by decide)) _
 · exact blk_over (grown_blk hi ty (by decide) hg) ne.h9 _
 · exact blk_over (grown_blk hl ty (by decide) hg) ne.h11 _
 · exact blk_over (grown_blk ho ty (by decide) hg) ne.h12 _
 · have e := grown_blk hg' ty (by decide) hg
   exact blk_over e (blk_apart e e1 (by decide)) _
 · have e := grown_blk hf ty (by decide) hg
   exact blk_over e (blk_apart e e1 (by decide)) _
 · exact Kd.R_set (far (fun k hk => hk.1.1) ri) e1 (by decide) _ _
 · exact Kd.R_set (far (fun k hk => hk.1.2) rl) e1 (by decide) _ _
 · exact Kd.R_set (far (fun k hk => hk.2.1) ro) e1 (by decide) _ _
end
/-! The search as plain functions. -/
def downT (st : List Int) (v : Int) : Nat → Option Nat
 | 0 => if rd st ((0 : Nat) : Int) = v then some 0 else none
 | n + 1 => if rd st ((n + 1 : Nat) : Int) = v then some (n + 1) else downT st v n
def assignT : List Int → List Int → Int → Option (List Int)
 | out, [], _ => some out
 | out, x :: xs, f => if 0 ≤ x then (if x < (out.length : Int) then assignT (out.set x.toNat f) xs f else none) else none
def finishT (v : Int) (s : TS) : Option TS :=
 if 0 < s.stack.length then (downT s.stack v (s.stack.length - 1)).bind fun a => (assignT s.out (s.stack.drop a) ((s.stack.drop a).foldl mn v)).bind fun o => some { s with out := o, stack := s.stack.take a } else none
mutual
def searchT : Nat → List (List Int) → Int → TS → Option TS
 | 0, _, _, _ => none
 | k + 1, g, v, s => if 0 ≤ v then (if v < (g.length : Int) then (if s.stack.length < 17592186044416 then
     loopT k g v (rd_L11 g v) 0 { next := wrap64 (s.next + 1), index := s.index.set v.toNat (wrap64 (s.next + 1)), low := s.low.set v.toNat (wrap64 (s.next + 1)), out := s.out.set v.toNat (-1), stack := s.stack ++ [v] } else none) else none) else none
def loopT : Nat → List (List Int) → Int → List Int → Int → TS → Option TS
 | 0, _, _, _, _, _ => none
 | k + 1, g, v, xs, i, s => if i < (xs.length : Int) then (if 0 ≤ i then
     (if 0 ≤ rd xs i ∧ rd xs i < (g.length : Int) then
       (if rd s.index (rd xs i) = 0 then ((searchT k g (rd xs i) s).bind fun s2 => loopT k g v xs (wrap64 (i + 1)) { s2 with low := s2.low.set v.toNat (mn (rd s2.low v) (rd s2.low (rd xs i))) })
        else if rd s.out (rd xs i) = -1 then loopT k g v xs (wrap64 (i + 1)) { s with low := s.low.set v.toNat (mn (rd s.low v) (rd s.index (rd xs i))) }
        else loopT k g v xs (wrap64 (i + 1)) s)
      else loopT k g v xs (wrap64 (i + 1)) s) else none)
   else if rd s.low v = rd s.index v then finishT v s else some s
end
section
variable {w0 w w1 : World} {Bn Bi Bl Bo Bs Bg Bf gi gl go ci cl co : Nat} {A0 : Option Addr} {c0 : Nat} {g : List (List Int)} {s : TS}
theorem CInv.stk (h : CInv w0 w Bn Bi Bl Bo Bs Bg Bf gi gl go ci cl co A0 c0 g s) (hp : 0 < s.stack.length) : ∃ gs cs, w.heap[Bs]? = some (.cells #[.slice (some ⟨gs, 0, none⟩) s.stack.length cs] 37 (0, 0)) ∧ Kd.R (Kd.int .i64) 3 w w0.heap.size (fun k => (k ≠ gi ∧ k ≠ gl) ∧ k ≠ go ∧ k ≠ Bn) (.slice (some ⟨gs, 0, none⟩) s.stack.length cs) s.stack ∧ s.stack.length ≤ cs ∧ (s.stack.length : Int) ≤ 9223372036854775807 ∧ ∀ i, i < s.stack.length → w.cell? ⟨gs, i, none⟩ = some (.int .i64 (rd s.stack (i : Int))) := by
 obtain ⟨vs, h1, h2⟩ := h.hs
 obtain ⟨gs, cs, rfl, _, _, _⟩ := Kd.R_form h2 hp
 obtain ⟨_, hc, hC⟩ := Kd.R_reads' h2
 exact ⟨gs, cs, h1, h2, hc, by have := hC.2.1; omega, fun i hi => by have := (Kd.R_celln (0 : Int) h2 (i : Int) (by omega) (by omega)).1; rwa [Int.toNat_natCast] at this⟩
theorem CInv.fresh (h : CInv w0 w Bn Bi Bl Bo Bs Bg Bf gi gl go ci cl co A0 c0 g s) (k : Nat) (hk : w.heap.size ≤ k) : (k ≠ gi ∧ k ≠ gl) ∧ k ≠ go ∧ k ≠ Bn := by
 obtain ⟨c1, h1⟩ := R_blk h.ri
 obtain ⟨c2, h2⟩ := R_blk h.rl
 obtain ⟨c3, h3⟩ := R_blk h.ro
 have := lt_of_block h1
 have := lt_of_block h2
 have := lt_of_block h3
 have := lt_of_block h.hn
 refine ⟨⟨?_, ?_⟩, ?_, ?_⟩ <;> omega
/-- What the walk reads of a row at a place. -/
theorem CInv.cells (h : CInv w0 w Bn Bi Bl Bo Bs Bg Bf gi gl go ci cl co A0 c0 g s) (x : Int) (h0 : 0 ≤ x) (h1 : x < (g.length : Int)) :
   (w.cell? ⟨gi, x.toNat, none⟩ = some (.int .i64 (rd s.index x)) ∧ w.frozen? ⟨gi, x.toNat, none⟩ = false) ∧ (w.cell? ⟨gl, x.toNat, none⟩ = some (.int .i64 (rd s.low x)) ∧ w.frozen? ⟨gl, x.toNat, none⟩ = false) ∧ (w.cell? ⟨go, x.toNat, none⟩ = some (.int .i64 (rd s.out x)) ∧ w.frozen? ⟨go, x.toNat, none⟩ = false) :=
 ⟨Kd.R_celln (0 : Int) h.ri x h0 h1, Kd.R_celln (0 : Int) h.rl x h0 h1, Kd.R_celln (0 : Int) h.ro x h0 h1⟩
end

set_option maxHeartbeats 2000000 in
set_option maxRecDepth 100000 in
theorem search_any (w0 : World) (Bn Bi Bl Bo Bs Bg Bf gi gl go ci cl co : Nat) (A0 : Option Addr) (c0 : Nat) (g : List (List Int)) (hr0 : Kd.C (Kd.slice 3 (Kd.int .i64)) w0 A0 g.length g) (hc0 : g.length ≤ c0) (ne : CNe w0.heap.size Bn Bi Bl Bo Bs gi gl go) (k : Nat) :
   ∀ (w : World) (s s' : TS) (v : Int), CInv w0 w Bn Bi Bl Bo Bs Bg Bf gi gl go ci cl co A0 c0 g s → searchT k g v s = some s' →
   Calls Try.prog 73 #[.int .i64 v, .pointer (some ⟨Bn, 0, none⟩), .pointer (some ⟨Bi, 0, none⟩), .pointer (some ⟨Bl, 0, none⟩), .pointer (some ⟨Bo, 0, none⟩), .pointer (some ⟨Bs, 0, none⟩), .pointer (some ⟨Bg, 0, none⟩), .pointer (some ⟨Bf, 0, none⟩)] w fun e w' => e = .returned (.tuple #[]) ∧ CInv w0 w' Bn Bi Bl Bo Bs Bg Bf gi gl go ci cl co A0 c0 g s' := by
 have HR0 := Aside0.mk hr0
 have HC0 := Aside0.mk hc0
 have NE := Aside0.mk ne
 clear hr0 hc0 ne
 induction k using Nat.strongRecOn with
 | _ k IH =>
 intro w s s' v h hs
 cases k with
 | zero => simp [searchT] at hs
 | succ k =>
 simp only [searchT] at hs
 by_cases hv0 : 0 ≤ v
 case neg => rw [if_neg hv0] at hs; cases hs
 rw [if_pos hv0] at hs
 by_cases hv1 : v < (g.length : Int)
 case neg => rw [if_neg hv1] at hs; cases hs
 rw [if_pos hv1] at hs
 by_cases hlim : s.stack.length < 17592186044416
 case neg => rw [if_neg hlim] at hs; cases hs
 rw [if_pos hlim] at hs
 have H := Aside0.mk hs
 have HV := Aside0.mk h
 have IHA := Aside0.mk IH
 have cn := cell_of_one h.hn
 have fn := free_of_one h.hn
 have HV1 := Aside0.mk (h.setN NE.out (wrap64 (s.next + 1)))
 clear hs h IH
 have HV2 := Aside0.mk (HV1.out.setI NE.out v (wrap64 (s.next + 1)))
 have HV3 := Aside0.mk (HV2.out.setL NE.out v (wrap64 (s.next + 1)))
 have HV4 := Aside0.mk (HV3.out.setO NE.out v (-1))
 have ci1 := cell_of_one HV1.out.hi
 have cl1 := cell_of_one HV1.out.hl
 have co1 := cell_of_one HV1.out.ho
 have cn1 := cell_of_one HV1.out.hn
 have ci2 := cell_of_one HV2.out.hi
 have cl2 := cell_of_one HV2.out.hl
 have co2 := cell_of_one HV2.out.ho
 have cn2 := cell_of_one HV2.out.hn
 have ci3 := cell_of_one HV3.out.hi
 have cl3 := cell_of_one HV3.out.hl
 have co3 := cell_of_one HV3.out.ho
 have cn3 := cell_of_one HV3.out.hn
 obtain ⟨x1, f1⟩ := (HV1.out.cells v hv0 hv1).1
 obtain ⟨x2, f2⟩ := (HV2.out.cells v hv0 hv1).2.1
 obtain ⟨x3, f3⟩ := (HV3.out.cells v hv0 hv1).2.2
 go_enter Try.func73, Try.ntmps73
 go_step3
 go_upto_region 1 with (fail)
 go_cut [] (fun wc => Aside0 (CInv w0 wc Bn Bi Bl Bo Bs Bg Bf gi gl go ci cl co A0 c0 g { next := wrap64 (s.next + 1), index := s.index.set v.toNat (wrap64 (s.next + 1)), low := s.low.set v.toNat (wrap64 (s.next + 1)), out := s.out.set v.toNat (-1), stack := s.stack }))
 case first =>
   go_region
   go_wp2
   go_meet
   case rel => exact ⟨HV4.out.below (below_drew (Below.refl _ _))⟩
 case rest =>
   clear HV HV1 HV2 HV3 HV4 ci1 cl1 co1 cn1 ci2 cl2 co2 cn2 ci3 cl3 co3 cn3 x1 f1 x2 f2 x3 f3 cn fn
   have HV := hcut
   clear hcut
   obtain ⟨vs, hs1, hs2⟩ := HV.out.hs
   have cs1 := cell_of_one hs1
   have HS := Aside0.mk hs2
   obtain ⟨ad, A3, c3, e3, hx3, hl3, hi3⟩ := at_L11 HR0.out v hv0 hv1
   subst e3
   have HX3 := Aside0.mk hx3
   have HI3 := Aside0.mk hi3
   clear hs1 hs2 hx3 hi3
   go_wp2_with (first
     | ((with_reducible refine gate_builtin (b := .append) (xs := #[.tmp 30, .tmp 32]) rfl ?_); at_builtin; refine Kd.R_append (Kd.int .i64) (w0 := w0) w0.heap.size rfl (.tmp 30) (.tmp 32) 37 3 (.int .i64 0) 8 rfl Try.underlying37 info3 rfl (by decide) (by omega) vs s.stack v [.int .i64 v] (fun k => (k ≠ gi ∧ k ≠ gl) ∧ k ≠ go ∧ k ≠ Bn) (fun _ => False) rfl rfl ?aP (fun _ hk => hk.elim) ?aF ?aO ?aB ?aS ?aL ?_; (case aP => exact rfl); (case aF => exact (fun k hk => HV.out.fresh k hk)); (case aO => exact HS.out); (case aB => exact HV.out.B); (case aS => exact HV.out.B.size); (case aL => omega); intro v2 w2 ho hb hg hat; obtain ⟨A2, k2, rfl⟩ := Kd.R_slice ho; have HP := Aside0.mk (CInv.push HV.out NE.out HS.out ho hb hg); obtain ⟨c2, hc2⟩ := Option.ne_none_iff_exists'.mp HP.out.2.1; have hf2 := HP.out.2.2; clear ho hb hg hat; have cg2 := cell_of_one HP.out.1.hg; have hx4 := (HP.out.1.B.cell (World.block_lt_of_cell? w0 _ HX3.out)).trans HX3.out; simp only [List.length_append, List.length_singleton] at cg2 hx4 HP))
   go_loopg [39] k (fun kq v39 w' => ∃ (i : Int) (s2 : TS), v39 = .int .i64 i ∧ Aside0 (loopT kq g v (rd_L11 g v) i s2 = some s') ∧ Aside0 (kq ≤ k) ∧ Aside0 (CInv w0 w' Bn Bi Bl Bo Bs Bg Bf gi gl go ci cl co (some ad) c0 g s2))
   case atStart => exact ⟨0, _, rfl, H, ⟨Nat.le_refl _⟩, ⟨HP.out.1⟩⟩
   case round =>
     clear H HV HP HS hx4 cg2 hc2 hf2 cs1
     obtain ⟨i, s2, rfl, HA, HK, HV⟩ := hrel
     cases gk with
     | zero => exact absurd HA.out (by simp [loopT])
     | succ k1 =>
     have H := HA.out
     clear HA
     simp only [loopT] at H
     have cg := cell_of_one HV.out.hg
     by_cases c1 : i < ((rd_L11 g v).length : Int)
     · rw [if_pos c1] at H
       have c1b : decide (i < ((rd_L11 g v).length : Int)) = true := decide_eq_true c1
       by_cases c2 : 0 ≤ i
       case neg => rw [if_neg c2] at H; cases H
       rw [if_pos c2] at H
       obtain ⟨ad2, e4, hx5⟩ := Kd.at_int HI3.out i c2 c1
       subst e4
       replace hx5 := (HV.out.B.cell (World.block_lt_of_cell? w0 _ hx5)).trans hx5
       obtain ⟨x, hx⟩ : ∃ x, x = rd (rd_L11 g v) i := ⟨_, rfl⟩
       rw [← hx] at H hx5
       clear hx
       have HR := Aside0.mk (Kd.C_below HR0.out HV.out.B)
       by_cases c3 : 0 ≤ x ∧ x < (g.length : Int)
       · rw [if_pos c3] at H
         have HI := Aside0.mk (show digraph_inside.f g x = some true by unfold digraph_inside.f; rw [if_pos c3.1, decide_eq_true c3.2])
         obtain ⟨c3a, c3b⟩ := c3
         have ci1 := cell_of_one HV.out.hi
         obtain ⟨x1, f1⟩ := (HV.out.cells x c3a c3b).1
         by_cases c4 : rd s2.index x = 0
         · rw [if_pos c4] at H
           rw [c4] at x1
           obtain ⟨s3, h3, h4⟩ := Option.bind_eq_some_iff.mp H
           have HS3 := Aside0.mk h3
           have H' := Aside0.mk h4
           have cf := cell_of_one HV.out.hf
           clear H h3 h4 c4
           go_wp2_with (first
             | (go_at_call 70; refine (digraph_inside.calls _ _ _ _ _ _ HR.out HC0.out HI.out).mono ?_; rintro e w2 ⟨rfl, ⟨n, rfl⟩⟩)
             | (go_at_call 73; refine (IHA.out k1 (by have := HK.out; omega) _ s2 s3 x (HV.out.below (below_self _ _)) HS3.out).mono ?_; rintro e w3 ⟨rfl, hv3⟩; have HV3 := Aside0.mk hv3; clear hv3; have cl3 := cell_of_one HV3.out.hl; obtain ⟨y1, g1⟩ := (HV3.out.cells v hv0 hv1).2.1; obtain ⟨y2, g2⟩ := (HV3.out.cells x c3a c3b).2.1))
           go_region
           go_wp2
           · have hm : mn (rd s3.low v) (rd s3.low x) = rd s3.low x := by unfold mn; split <;> omega
             rw [hm] at H'
             go_roundg k1
             case measure => have := HK.out; omega
             case rel => exact ⟨_, _, rfl, H', ⟨by have := HK.out; omega⟩, ⟨(HV3.out.setL NE.out v _).below (below_drew (Below.refl _ _))⟩⟩
           · have hm : mn (rd s3.low v) (rd s3.low x) = rd s3.low v := by unfold mn; split <;> omega
             rw [hm] at H'
             go_roundg k1
             case measure => have := HK.out; omega
             case rel => exact ⟨_, _, rfl, H', ⟨by have := HK.out; omega⟩, ⟨(HV3.out.setL NE.out v _).below (below_drew (Below.refl _ _))⟩⟩
         · rw [if_neg c4] at H
           have c4b : (rd s2.index x == 0) = false := beq_eq_false_iff_ne.mpr c4
           have co1 := cell_of_one HV.out.ho
           obtain ⟨x2, f2⟩ := (HV.out.cells x c3a c3b).2.2
           by_cases c5 : rd s2.out x = -1
           · rw [if_pos c5] at H
             rw [c5] at x2
             have H' := Aside0.mk H
             clear H c4 c5
             have cl1 := cell_of_one HV.out.hl
             obtain ⟨y1, g1⟩ := (HV.out.cells v hv0 hv1).2.1
             go_wp2_with (first | (go_at_call 70; refine (digraph_inside.calls _ _ _ _ _ _ HR.out HC0.out HI.out).mono ?_; rintro e w2 ⟨rfl, ⟨n, rfl⟩⟩))
             go_region
             go_wp2
             · have hm : mn (rd s2.low v) (rd s2.index x) = rd s2.index x := by unfold mn; split <;> omega
               rw [hm] at H'
               go_roundg k1
               case measure => have := HK.out; omega
               case rel => exact ⟨_, _, rfl, H', ⟨by have := HK.out; omega⟩, ⟨(HV.out.below (below_self _ _)).setL NE.out v _⟩⟩
             · have hm : mn (rd s2.low v) (rd s2.index x) = rd s2.low v := by unfold mn; split <;> omega
               rw [hm] at H'
               go_roundg k1
               case measure => have := HK.out; omega
               case rel => exact ⟨_, _, rfl, H', ⟨by have := HK.out; omega⟩, ⟨(HV.out.below (below_self _ _)).setL NE.out v _⟩⟩
           · rw [if_neg c5] at H
             have c5b : (rd s2.out x == -1) = false := beq_eq_false_iff_ne.mpr c5
             have H' := Aside0.mk H
             clear H c4 c5
             go_wp2_with (first | (go_at_call 70; refine (digraph_inside.calls _ _ _ _ _ _ HR.out HC0.out HI.out).mono ?_; rintro e w2 ⟨rfl, ⟨n, rfl⟩⟩))
             go_roundg k1
             case measure => have := HK.out; omega
             case rel => exact ⟨_, _, rfl, H', ⟨by have := HK.out; omega⟩, ⟨HV.out.below (below_self _ _)⟩⟩
       · rw [if_neg c3] at H
         have HI := Aside0.mk (show digraph_inside.f g x = some false by
           unfold digraph_inside.f
           by_cases h0 : 0 ≤ x
           · rw [if_pos h0, decide_eq_false (fun h1 => c3 ⟨h0, h1⟩)]
           · rw [if_neg h0])
         have H' := Aside0.mk H
         clear H c3
         go_wp2_with (first | (go_at_call 70; refine (digraph_inside.calls _ _ _ _ _ _ HR.out HC0.out HI.out).mono ?_; rintro e w2 ⟨rfl, ⟨n, rfl⟩⟩))
         go_roundg k1
         case measure => have := HK.out; omega
         case rel => exact ⟨_, _, rfl, H', ⟨by have := HK.out; omega⟩, ⟨HV.out.below (below_self _ _)⟩⟩
     · rw [if_neg c1] at H
       have c1b : decide (i < ((rd_L11 g v).length : Int)) = false := decide_eq_false c1
       have cl1 := cell_of_one HV.out.hl
       have ci1 := cell_of_one HV.out.hi
       obtain ⟨x1, f1⟩ := (HV.out.cells v hv0 hv1).1
       obtain ⟨x2, f2⟩ := (HV.out.cells v hv0 hv1).2.1
       by_cases c2 : rd s2.low v = rd s2.index v
       · rw [if_pos c2] at H
         have c2b : (rd s2.low v == rd s2.index v) = true := beq_iff_eq.mpr c2
         have c2c : (rd s2.low v != rd s2.index v) = false := bne_eq_false_iff_eq.mpr c2
         have H' := Aside0.mk H
         clear H c2
         go_wp2
         go_quiet (fail)
         go_upto_region 14 with (fail)
         clear cl1 ci1 x1 f1 x2 f2 c2b c2c c1b cg
         have H := H'.out
         clear H'
         unfold finishT at H
         by_cases hp : 0 < s2.stack.length
         case neg => rw [if_neg hp] at H; cases H
         rw [if_pos hp] at H
         obtain ⟨a, hd, H⟩ := Option.bind_eq_some_iff.mp H
         obtain ⟨o, ha, H⟩ := Option.bind_eq_some_iff.mp H
         obtain rfl := Option.some.inj H
         obtain ⟨gs, cs, hs1, hs2, hs3, hs4, hs5⟩ := HV.out.stk hp
         have cs1 := cell_of_one hs1
         have HD := Aside0.mk hd
         have HA := Aside0.mk ha
         clear H hs1 hs2 hs5 hd ha
         go_wp2
         go_step3
         go_wp2
         go_loopg [11] (s2.stack.length - 1) (fun kq v11 w' => v11 = .int .i64 (kq : Int) ∧ Aside0 (downT s2.stack v kq = some a) ∧ Aside0 (kq < s2.stack.length) ∧ Aside0 (CInv w0 w' Bn Bi Bl Bo Bs Bg Bf gi gl go ci cl co (some ad) c0 g s2))
         case atStart => exact ⟨by congr 1; omega, HD, ⟨by omega⟩, ⟨HV.out.below (below_self _ _)⟩⟩
         case round =>
           clear HD HV cs1 hs3 hs4
           obtain ⟨rfl, HD, HK2, HV⟩ := hrel
           obtain ⟨gs, cs, hs1, hs2, hs3, hs4, hs5⟩ := HV.out.stk hp
           have cs1 := cell_of_one hs1
           have hx := hs5 gk HK2.out
           have hk2 := HK2.out
           have HS5 := Aside0.mk hs5
           have HS2 := Aside0.mk hs2
           clear hs1 hs2 hs5
           have hd := HD.out
           by_cases c4 : rd s2.stack (gk : Int) = v
           · have c4b : (rd s2.stack (gk : Int) == v) = true := beq_iff_eq.mpr c4
             have e5 : a = gk := by
               cases gk with
               | zero => simp only [downT] at hd; rw [if_pos c4] at hd; exact (Option.some.inj hd).symm
               | succ m => simp only [downT] at hd; rw [if_pos c4] at hd; exact (Option.some.inj hd).symm
             subst e5
             have hac : decide (cs = a) = false := decide_eq_false (by omega)
             obtain ⟨wo, rfl⟩ : ∃ wo : World, wo = wr := ⟨_, rfl⟩
             clear hd HD c4
             go_wp2
             go_loopg [12, 110] (s2.stack.length - a) (fun kq v12 v110 w' => ∃ (f : Int) (j : Nat), v12 = .int .i64 f ∧ v110 = .int .i64 (j : Int) ∧ Aside0 (((s2.stack.drop a).drop j).foldl mn f = (s2.stack.drop a).foldl mn v) ∧ Aside0 (j ≤ s2.stack.length - a) ∧ Aside0 (kq = s2.stack.length - a - j) ∧ w' = wo)
             case atStart => exact ⟨v, 0, rfl, rfl, ⟨rfl⟩, ⟨Nat.zero_le _⟩, ⟨by omega⟩, rfl⟩
             case round =>
               obtain ⟨f, j, rfl, rfl, HF, HJ, HG, rfl⟩ := hrel
               have hj := HJ.out
               by_cases c6 : j < s2.stack.length - a
               · have c6b : decide (j < s2.stack.length - a) = true := decide_eq_true c6
                 have hx2 := HS5.out (a + j) (by omega)
                 have hf := HF.out
                 rw [drop_step _ _ _ c6] at hf
                 obtain ⟨x, ex⟩ : ∃ x, x = rd s2.stack ((a + j : Nat) : Int) := ⟨_, rfl⟩
                 rw [← ex] at hf hx2
                 rw [List.foldl_cons] at hf
                 clear ex HF
                 by_cases c7 : x < f
                 · rw [show mn f x = x by unfold mn; rw [if_pos c7]] at hf
                   have HF := Aside0.mk hf
                   clear hf
                   go_wp2
                   go_roundg (s2.stack.length - a - (j + 1))
                   case measure => have := HG.out; omega
                   case rel => exact ⟨x, j + 1, rfl, by go_num, HF, ⟨by omega⟩, ⟨rfl⟩, rfl⟩
                 · rw [show mn f x = f by unfold mn; rw [if_neg c7]] at hf
                   have HF := Aside0.mk hf
                   clear hf
                   go_wp2
                   go_roundg (s2.stack.length - a - (j + 1))
                   case measure => have := HG.out; omega
                   case rel => exact ⟨f, j + 1, rfl, by go_num, HF, ⟨by omega⟩, ⟨rfl⟩, rfl⟩
               · have c6b : decide (j < s2.stack.length - a) = false := decide_eq_false c6
                 have hf := HF.out
                 rw [drop_end _ _ _ c6] at hf
                 simp only [List.foldl_nil] at hf
                 have HAS := HA
                 rw [← hf] at HAS
                 clear HF hf HA
                 go_wp2
                 go_loopg [122] (s2.stack.length - a) (fun kq v122 w' => ∃ (j : Nat) (out3 : List Int), v122 = .int .i64 (j : Int) ∧ Aside0 (assignT out3 ((s2.stack.drop a).drop j) f = some o) ∧ Aside0 (j ≤ s2.stack.length - a) ∧ Aside0 (kq = s2.stack.length - a - j) ∧ Aside0 (CInv w0 w' Bn Bi Bl Bo Bs Bg Bf gi gl go ci cl co (some ad) c0 g { s2 with out := out3 }) ∧ Aside0 (Kd.R (Kd.int .i64) 3 w' w0.heap.size (fun k => (k ≠ gi ∧ k ≠ gl) ∧ k ≠ go ∧ k ≠ Bn) (.slice (some ⟨gs, 0, none⟩) s2.stack.length cs) s2.stack))
                 case atStart => exact ⟨0, _, rfl, HAS, ⟨Nat.zero_le _⟩, ⟨by omega⟩, HV, HS2⟩
                 case round =>
                   clear HAS HV HS2 HS5 cs1 hx
                   obtain ⟨j, out3, rfl, HAS, HJ, HG, HV, HS2⟩ := hrel
                   have hj := HJ.out
                   have has := HAS.out
                   clear HAS
                   by_cases c8 : j < s2.stack.length - a
                   · have c8b : decide (j < s2.stack.length - a) = true := decide_eq_true c8
                     obtain ⟨hx2, _⟩ := Kd.R_celln (0 : Int) HS2.out ((a + j : Nat) : Int) (by omega) (by omega)
                     rw [Int.toNat_natCast] at hx2
                     rw [drop_step _ _ _ c8] at has
                     obtain ⟨x, ex⟩ : ∃ x, x = rd s2.stack ((a + j : Nat) : Int) := ⟨_, rfl⟩
                     replace hx2 : wr.cell? ⟨gs, a + j, none⟩ = some (.int .i64 x) := by rw [ex]; exact hx2
                     rw [← ex] at has
                     clear ex
                     simp only [assignT] at has
                     by_cases d0 : 0 ≤ x
                     case neg => rw [if_neg d0] at has; cases has
                     rw [if_pos d0] at has
                     by_cases d1 : x < (out3.length : Int)
                     case neg => rw [if_neg d1] at has; cases has
                     rw [if_pos d1] at has
                     rw [R_len HV.out.ro] at d1
                     have HAS := Aside0.mk has
                     have co1 := cell_of_one HV.out.ho
                     obtain ⟨y1, y2⟩ := (HV.out.cells x d0 d1).2.2
                     clear has
                     go_wp2
                     go_roundg (s2.stack.length - a - (j + 1))
                     case measure => have := HG.out; omega
                     case rel => exact ⟨j + 1, _, by go_num, HAS, ⟨by omega⟩, ⟨rfl⟩, ⟨HV.out.setO NE.out x f⟩, ⟨Kd.R_far (p := ⟨go, x.toNat, none⟩) HS2.out (fun k hk => hk.2.1) _⟩⟩
                   · have c8b : decide (j < s2.stack.length - a) = false := decide_eq_false c8
                     rw [drop_end _ _ _ c8] at has
                     simp only [assignT] at has
                     obtain rfl := Option.some.inj has
                     clear has
                     obtain ⟨gs2, cq, ht1, ht2, ht3, ht4, ht5⟩ := HV.out.stk hp
                     have ct1 := cell_of_one ht1
                     have ct2 := free_of_one ht1
                     have HT := Aside0.mk ht2
                     have HE := Aside0.mk (HV.out.setS NE.out (Kd.R_take (m := a) ht2 (by show a ≤ s2.stack.length; omega)))
                     clear ht1 ht2 ht5
                     have hta : a ≤ s2.stack.length := by omega
                     have htb : a ≤ cq := Nat.le_trans hta ht3
                     go_wp2
                     go_end0
                     exact ⟨rfl, HE.out⟩
           · obtain ⟨y, hy⟩ : ∃ y, y = rd s2.stack (gk : Int) := ⟨_, rfl⟩
             rw [← hy] at hx
             have c4b : (y == v) = false := beq_eq_false_iff_ne.mpr (by rw [hy]; exact c4)
             clear hy
             cases gk with
             | zero => simp only [downT] at hd; rw [if_neg c4] at hd; cases hd
             | succ m =>
               simp only [downT] at hd
               rw [if_neg c4] at hd
               have HD2 := Aside0.mk hd
               clear hd HD c4
               go_wp2
               go_roundg m
               case measure => omega
               case rel => exact ⟨by go_num, HD2, ⟨by omega⟩, HV⟩
       · rw [if_neg c2] at H
         have c2b : (rd s2.low v == rd s2.index v) = false := beq_eq_false_iff_ne.mpr c2
         have c2c : (rd s2.low v != rd s2.index v) = true := bne_iff_ne.mpr c2
         obtain rfl := Option.some.inj H
         clear H c2
         go_wp2
         go_quiet (fail)
         go_wp2
         rw [Exit.noGoto_ret]
         refine bodyPost_ret (results_none rfl _ _ _) rfl ?_
         exact ⟨rfl, HV.out.below (below_self _ _)⟩
def digraph_Components.l0 : Nat → List (List Int) → Int → TS → Option (List Int)
 | 0, _, _, _ => none
 | k + 1, g, v, s => if v < (g.length : Int) then (if 0 ≤ v then (if rd s.index v = 0 then ((searchT k g v s).bind fun s2 => digraph_Components.l0 k g (wrap64 (v + 1)) s2) else digraph_Components.l0 k g (wrap64 (v + 1)) s) else none) else some s.out
def digraph_Components.f (k : Nat) (l0 : List (List Int)) : Option (List Int) := if l0.length ≤ 35184372088832 then digraph_Components.l0 k l0 0 { next := 0, index := List.replicate l0.length 0, low := List.replicate l0.length 0, out := List.replicate l0.length 0, stack := [] } else none
theorem searchT.mono_l : ∀ k, (∀ y0 y1 y2, LeO (searchT k y0 y1 y2) (searchT (k + 1) y0 y1 y2)) ∧ (∀ y0 y1 y2 y3 y4, LeO (loopT k y0 y1 y2 y3 y4) (loopT (k + 1) y0 y1 y2 y3 y4))
 | 0 => ⟨fun _ _ _ r h => by simp [searchT] at h, fun _ _ _ _ _ r h => by simp [loopT] at h⟩
 | k + 1 => by
   obtain ⟨ih0, ih1⟩ := searchT.mono_l k
   refine ⟨?_, ?_⟩
   · intro y0 y1 y2
     unfold searchT
     repeat' first | exact ih1 _ _ _ _ _ | exact LeO.none _ | refine LeO.ite ?_ ?_
   · intro y0 y1 y2 y3 y4
     unfold loopT
     repeat' first | exact ih1 _ _ _ _ _ | exact LeO.refl _ | exact LeO.none _ | refine LeO.ite ?_ ?_ | refine LeO.bind (ih0 _ _ _) (fun _ => ?_)
theorem digraph_Components.mono_l : ∀ k, ∀ y0 y1 y2, LeO (digraph_Components.l0 k y0 y1 y2) (digraph_Components.l0 (k + 1) y0 y1 y2)
 | 0 => fun _ _ _ r h => by simp [digraph_Components.l0] at h
 | k + 1 => by
   have ih := digraph_Components.mono_l k
   intro y0 y1 y2
   unfold digraph_Components.l0
   repeat' first | exact ih _ _ _ | exact LeO.refl _ | exact LeO.none _ | refine LeO.ite ?_ ?_ | refine LeO.bind ((searchT.mono_l k).1 _ _ _) (fun _ => ?_)
theorem digraph_Components.mono : ∀ a0 k, LeO (digraph_Components.f k a0) (digraph_Components.f (k + 1) a0) := by
 intro a0 k
 unfold digraph_Components.f
 exact LeO.ite (digraph_Components.mono_l k _ _ _) (LeO.none _)
theorem CInv.start {w w1 w2 w3 : World} {A0 : Option Addr} {c0 gi gl go ci cl co : Nat} {g : List (List Int)} (HG3 : w3.heap[w.heap.size]? = some (.cells #[.slice A0 g.length c0] 30 (0, 0))) (HBo : w3.heap[w1.heap.size]? = some (.cells #[.slice (some ⟨go, 0, none⟩) g.length co] 37 (0, 0))) (HBi : w3.heap[w2.heap.size]? = some (.cells #[.slice (some ⟨gi, 0, none⟩) g.length ci] 37 (0, 0)))
   (HO : Kd.R (Kd.int .i64) 3 w3 w.heap.size (fun k => k = go) (.slice (some ⟨go, 0, none⟩) g.length co) (List.replicate g.length 0)) (HI : Kd.R (Kd.int .i64) 3 w3 w.heap.size (fun k => k = gi) (.slice (some ⟨gi, 0, none⟩) g.length ci) (List.replicate g.length 0)) (HL : Kd.R (Kd.int .i64) 3 w3 w.heap.size (fun k => k = gl) (.slice (some ⟨gl, 0, none⟩) g.length cl) (List.replicate g.length 0))
   (HB : Below w.heap.size w w3) {F : Value} (hF : F = .func (.func 73) #[] #[.pointer (some ⟨w3.heap.size + 1 + 1, 0, none⟩), .pointer (some ⟨w2.heap.size, 0, none⟩), .pointer (some ⟨w3.heap.size, 0, none⟩), .pointer (some ⟨w1.heap.size, 0, none⟩), .pointer (some ⟨w3.heap.size + 1, 0, none⟩), .pointer (some ⟨w.heap.size, 0, none⟩), .pointer (some ⟨w3.heap.size + 1 + 1 + 1, 0, none⟩)]) :
   CInv w ((((w3.alloc (.cells #[.slice (some ⟨gl, 0, none⟩) g.length cl] 37)).alloc (.cells #[.slice none 0 0] 37)).alloc (.cells #[.int .i64 0] 3)).alloc (.cells #[F] 64)) (w3.heap.size + 1 + 1) w2.heap.size w3.heap.size w1.heap.size (w3.heap.size + 1) w.heap.size (w3.heap.size + 1 + 1 + 1) gi gl go ci cl co A0 c0 g { next := 0, index := List.replicate g.length 0, low := List.replicate g.length 0, out := List.replicate g.length 0, stack := [] } := by
 have s1 := Stays.alloc w3 (.cells #[.slice (some ⟨gl, 0, none⟩) g.length cl] 37)
 have z1 : (w3.alloc (.cells #[.slice (some ⟨gl, 0, none⟩) g.length cl] 37)).heap.size = w3.heap.size + 1 := by simp
 have n1 := alloc_new w3 (.cells #[.slice (some ⟨gl, 0, none⟩) g.length cl] 37)
 have b1 := below_alloc HB (.cells #[.slice (some ⟨gl, 0, none⟩) g.length cl] 37)
 generalize w3.alloc (.cells #[.slice (some ⟨gl, 0, none⟩) g.length cl] 37) = x1 at s1 z1 n1 b1 ⊢
 have s2 := Stays.alloc x1 (.cells #[.slice none 0 0] 37)
 have z2 : (x1.alloc (.cells #[.slice none 0 0] 37)).heap.size = w3.heap.size + 1 + 1 := by simp [z1]
 have n2 := alloc_new x1 (.cells #[.slice none 0 0] 37)
 have b2 := below_alloc b1 (.cells #[.slice none 0 0] 37)
 generalize x1.alloc (.cells #[.slice none 0 0] 37) = x2 at s2 z2 n2 b2 ⊢
 have s3 := Stays.alloc x2 (.cells #[.int .i64 0] 3)
 have z3 : (x2.alloc (.cells #[.int .i64 0] 3)).heap.size = w3.heap.size + 1 + 1 + 1 := by simp [z2]
 have n3 := alloc_new x2 (.cells #[.int .i64 0] 3)
 have b3 := below_alloc b2 (.cells #[.int .i64 0] 3)
 generalize x2.alloc (.cells #[.int .i64 0] 3) = x3 at s3 z3 n3 b3 ⊢
 have s4 := Stays.alloc x3 (.cells #[F] 64)
 have n4 := alloc_new x3 (.cells #[F] 64)
 have b4 := below_alloc b3 (.cells #[F] 64)
 generalize x3.alloc (.cells #[F] 64) = x4 at s4 n4 b4 ⊢
 rw [z1] at n2
 rw [z2] at n3
 rw [z3] at n4
 rw [hF] at n4
 have s := ((s1.trans s2).trans s3).trans s4
 exact ⟨s4.blk n3, s.blk HBi, ((s2.trans s3).trans s4).blk n1, s.blk HBo, ⟨_, (s3.trans s4).blk n2, Kd.R_nil _ _ _ _ _⟩, s.blk HG3, n4, s.R HI, s.R HL, s.R HO, b4⟩

set_option maxHeartbeats 2000000 in
set_option maxRecDepth 100000 in
theorem digraph_Components.calls (k : Nat) (A0 : Option Addr) (c0 : Nat) (l0 : List (List Int)) (r : List Int) (w : World) (hr0 : Kd.C (Kd.slice 3 (Kd.int .i64)) w A0 l0.length l0) (hc0 : l0.length ≤ c0) (h : digraph_Components.f k l0 = some r) :
   Calls Try.prog 43 #[.slice A0 l0.length c0] w fun e w' => ∃ v0_ : Value, e = .returned (v0_) ∧ Kd.R (Kd.int .i64) 3 w' w.heap.size (fun _ => True) v0_ r ∧ Below w.heap.size w w' := by
 have HR0 := Aside0.mk hr0
 have HC0 := Aside0.mk hc0
 clear hr0 hc0
 unfold digraph_Components.f at h
 by_cases c2 : l0.length ≤ 35184372088832
 case neg => rw [if_neg c2] at h; cases h
 rw [if_pos c2] at h
 have H := Aside0.mk h
 clear h
 have hl0 : (0 : Int) ≤ (l0.length : Int) := by omega
 have hl1 : (l0.length : Int).toNat * 8 ≤ 281474976710656 := by omega
 have HG := Aside0.mk (alloc_new w (.cells #[.slice A0 l0.length c0] 30))
 have hmf : ∀ (fn : Fn) (first cap : Array Value) (w : World), (Instr.makeFunc fn first cap).run Try.prog w = .ok (.func fn first cap) w := fun _ _ _ _ => rfl
 go_enter Try.func43, Try.ntmps43
 go_wp2_with (first
   | ((with_reducible refine gate_dst (N := 12) rfl ?_); refine Kd.R_make (w0 := w) (Kd.int .i64) w.heap.size 3 rfl (N := 12) rfl 37 _ _ rfl (l0.length : Int) rfl rfl Try.underlying37 (.int .i64 0) 8 info3 rfl (by decide) (by omega) 0 (ok := fun _ => True) (okp := fun _ => True) rfl (fun _ hk => hk) trivial hl0 hl1 (below_alloc (Below.refl _ _) _) (by simp) ?_; intro v1 w1 ho hb hg hnew; rw [Int.toNat_natCast] at ho; obtain ⟨go, co, e2, no1, no2, ho2⟩ := made_row ho hnew; rw [List.length_replicate] at e2 ho2; subst e2; have HB1 := Aside0.mk hb; have HO := Aside0.mk ho2; have HG1 := Aside0.mk ((Stays.grown hg).blk HG.out); have cg1 := cell_of_one ((Stays.alloc w1 (.cells #[.slice (some ⟨go, 0, none⟩) l0.length co] 37)).blk HG1.out); have bz1 := hb.size; clear ho hb hg hnew ho2)
   | ((with_reducible refine gate_dst (N := 15) rfl ?_); refine Kd.R_make (w0 := w) (Kd.int .i64) w.heap.size 3 rfl (N := 15) rfl 37 _ _ rfl (l0.length : Int) rfl rfl Try.underlying37 (.int .i64 0) 8 info3 rfl (by decide) (by omega) 0 (ok := fun _ => True) (okp := fun _ => True) rfl (fun _ hk => hk) trivial hl0 hl1 (below_alloc HB1.out _) (by simp; omega) ?_; intro v2 w2 ho hb hg hnew; rw [Int.toNat_natCast] at ho; obtain ⟨gi, ci, e2, ni1, ni2, ho2⟩ := made_row ho hnew; rw [List.length_replicate] at e2 ho2; subst e2; have HB2 := Aside0.mk hb; have HI := Aside0.mk ho2; have S2 := Aside0.mk ((Stays.alloc w1 (.cells #[.slice (some ⟨go, 0, none⟩) l0.length co] 37)).trans (Stays.grown hg)); have HBo := Aside0.mk ((Stays.grown hg).blk (alloc_new w1 (.cells #[.slice (some ⟨go, 0, none⟩) l0.length co] 37))); have HG2 := Aside0.mk (S2.out.blk HG1.out); have cg2 := cell_of_one ((Stays.alloc w2 (.cells #[.slice (some ⟨gi, 0, none⟩) l0.length ci] 37)).blk HG2.out); have bz2 := hb.size; clear ho hb hg hnew ho2)
   | ((with_reducible refine gate_dst (N := 18) rfl ?_); refine Kd.R_make (w0 := w) (Kd.int .i64) w.heap.size 3 rfl (N := 18) rfl 37 _ _ rfl (l0.length : Int) rfl rfl Try.underlying37 (.int .i64 0) 8 info3 rfl (by decide) (by omega) 0 (ok := fun _ => True) (okp := fun _ => True) rfl (fun _ hk => hk) trivial hl0 hl1 (below_alloc HB2.out _) (by simp; omega) ?_; intro v3 w3 ho hb hg hnew; rw [Int.toNat_natCast] at ho; obtain ⟨gl, cl, e2, nl1, nl2, ho2⟩ := made_row ho hnew; rw [List.length_replicate] at e2 ho2; subst e2; have HB3 := Aside0.mk hb; have HL := Aside0.mk ho2; have S3 := Aside0.mk ((Stays.alloc w2 (.cells #[.slice (some ⟨gi, 0, none⟩) l0.length ci] 37)).trans (Stays.grown hg)); have HBi := Aside0.mk ((Stays.grown hg).blk (alloc_new w2 (.cells #[.slice (some ⟨gi, 0, none⟩) l0.length ci] 37))); have bz3 := hb.size; have HV := Aside0.mk (CInv.start (S3.out.blk HG2.out) (S3.out.blk HBo.out) HBi.out (S3.out.R (S2.out.R HO.out)) (S3.out.R HI.out) HL.out hb rfl); have cg3 := cell_of_one HV.out.hg; have NE := Aside0.mk (show CNe w.heap.size (w3.heap.size + 1 + 1) w2.heap.size w3.heap.size w1.heap.size (w3.heap.size + 1) gi gl go by have := S2.out.1; have := S3.out.1; simp at *; constructor <;> omega); clear ho hb hg hnew ho2))
 go_loopg [22] k (fun kq v22 w' => ∃ (i : Int) (s : TS), v22 = .int .i64 i ∧ Aside0 (digraph_Components.l0 kq l0 i s = some r) ∧ Aside0 (kq ≤ k) ∧ Aside0 (CInv w w' (w3.heap.size + 1 + 1) w2.heap.size w3.heap.size w1.heap.size (w3.heap.size + 1) w.heap.size (w3.heap.size + 1 + 1 + 1) gi gl go ci cl co A0 c0 l0 s))
 case atStart => exact ⟨0, _, rfl, H, ⟨Nat.le_refl _⟩, HV⟩
 case round =>
   clear H HV cg1 cg2 cg3
   obtain ⟨i, s, rfl, HA, HK, HV⟩ := hrel
   cases gk with
   | zero => exact absurd HA.out (by simp [digraph_Components.l0])
   | succ k1 =>
   have H := HA.out
   clear HA
   simp only [digraph_Components.l0] at H
   by_cases c3 : i < (l0.length : Int)
   · rw [if_pos c3] at H
     have c3b : decide (i < (l0.length : Int)) = true := decide_eq_true c3
     by_cases c4 : 0 ≤ i
     case neg => rw [if_neg c4] at H; cases H
     rw [if_pos c4] at H
     rw [show wrap64 (i + 1) = i + 1 by unfold wrap64; omega] at H
     have ci1 := cell_of_one HV.out.hi
     obtain ⟨x1, f1⟩ := (HV.out.cells i c4 c3).1
     by_cases c5 : rd s.index i = 0
     · rw [if_pos c5] at H
       obtain ⟨s2, h1, h2⟩ := Option.bind_eq_some_iff.mp H
       have HS := Aside0.mk h1
       have H' := Aside0.mk h2
       have cf := cell_of_one HV.out.hf
       rw [c5] at x1
       clear H h1 h2 c5
       go_wp2_with (first | (go_at_call 73; refine (search_any w _ _ _ _ _ _ _ _ _ _ _ _ _ _ _ _ HR0.out HC0.out NE.out k1 _ s s2 i HV.out HS.out).mono ?_; rintro e w4 ⟨rfl, hv3⟩; have HV3 := Aside0.mk hv3; clear hv3))
       go_roundg k1
       case measure => have := HK.out; omega
       case rel => exact ⟨_, _, rfl, H', ⟨by have := HK.out; omega⟩, HV3⟩
     · rw [if_neg c5] at H
       have c5b : (rd s.index i == 0) = false := beq_eq_false_iff_ne.mpr c5
       have H' := Aside0.mk H
       clear H c5
       go_wp2
       go_roundg k1
       case measure => have := HK.out; omega
       case rel => exact ⟨_, _, rfl, H', ⟨by have := HK.out; omega⟩, HV⟩
   · rw [if_neg c3] at H
     have c3b : decide (i < (l0.length : Int)) = false := decide_eq_false c3
     obtain rfl := Option.some.inj H
     have co1 := cell_of_one HV.out.ho
     clear H
     go_wp2
     go_ret
     exact ⟨_, rfl, Kd.R_mono HV.out.ro (fun _ _ => trivial), HV.out.B⟩

/-! ### netclass_Strong: function 16 -/
def netclass_Strong.l0 : Nat → List Int → Int → Int → Option (Bool)
 | 0, _, _, _ => none
 | k + 1, x10, x11, x12 => if x12 < x11 then (if 0 ≤ x12 then (if x12 < (x10.length : Int) then (if (rd x10 x12) = 0 then (netclass_Strong.l0 k x10 x11 (wrap64 (x12 + 1))) else (some false)) else (none)) else (none)) else (some true)
def netclass_Strong.f (k : Nat) (a0_0 : ByteArray) (l0_1 : List (S46)) (l0_2 : List (S41)) : Option (Bool) := (netclass_valid.f k a0_0 l0_1 l0_2).bind fun t218 => (if t218 = true then ((netclass_Flow.f k a0_0 l0_1 l0_2).bind fun t219 => ((digraph_Components.f k t219).bind fun t222 => (netclass_Strong.l0 k t222 (t222.length : Int) 0))) else (some false))
theorem netclass_Strong.mono_l : ∀ k, M3 netclass_Strong.l0 k
 | 0 => fun _ _ _ r h => by simp [netclass_Strong.l0] at h
 | k + 1 => by
  have ih0 := netclass_Strong.mono_l k
  ·intro y0 y1 y2
   unfold netclass_Strong.l0
   repeat' first | (with_reducible first | apply ih0 | apply digraph_Components.mono | apply netclass_Flow.mono | apply netclass_valid.mono | apply lr | apply ln | apply li | refine lb ?_ fun _ => ?_)
theorem netclass_Strong.mono : ∀ a0 a1 a2 k, LeO (netclass_Strong.f k a0 a1 a2) (netclass_Strong.f (k + 1) a0 a1 a2) := by
 intro a0 a1 a2 k
 have ih0 := netclass_Strong.mono_l k
 unfold netclass_Strong.f
 repeat' first | (with_reducible first | apply ih0 | apply digraph_Components.mono | apply netclass_Flow.mono | apply netclass_valid.mono | apply lr | apply ln | apply li | refine lb ?_ fun _ => ?_)
set_option maxHeartbeats 8000000 in
set_option maxRecDepth 100000 in
theorem netclass_Strong.calls (k : Nat) (a0_0 : ByteArray) (A0_1 : Option Addr) (c0_1 : Nat) (l0_1 : List (S46)) (A0_2 : Option Addr) (c0_2 : Nat) (l0_2 : List (S41)) (r : Bool) (w : World) (hr0_1 : Kd.C k46 w A0_1 l0_1.length l0_1) (hc0_1 : l0_1.length ≤ c0_1) (hr0_2 : Kd.C k41 w A0_2 l0_2.length l0_2) (hc0_2 : l0_2.length ≤ c0_2) (h : netclass_Strong.f k a0_0 l0_1 l0_2 = some r) :
  Calls Try.prog 16 #[.agg #[.string a0_0, .slice A0_1 l0_1.length c0_1, .slice A0_2 l0_2.length c0_2]] w fun e w' => e = .returned (.bool r) ∧ Below w.heap.size w w' := by
 have hu25 := Try.underlying25
 have HR0_1 := am hr0_1
 have HC0_1 := am hc0_1
 clear hr0_1 hc0_1
 have HR0_2 := am hr0_2
 have HC0_2 := am hc0_2
 clear hr0_2 hc0_2
 have HB := am (Below.refl w.heap.size w)
 have H : ((netclass_valid.f k a0_0 l0_1 l0_2).bind fun t218 => (if t218 = true then ((netclass_Flow.f k a0_0 l0_1 l0_2).bind fun t219 => ((digraph_Components.f k t219).bind fun t222 => (netclass_Strong.l0 k t222 (t222.length : Int) 0))) else (some false))) = some r := h
 clear h
 replace H := bnd H
 obtain ⟨t218, A2, H⟩ := H
 (try dsimp only at H)
 by_cases c3 : t218 = true
 rotate_left
 ·replace c3 := Bool.eq_false_iff.mpr c3
  subst c3
  rw [if_neg Bool.false_ne_true] at H
  obtain rfl := Option.some.inj H
  go_enter Try.func16, Try.ntmps16
  go_wp2_with (first | ((with_reducible refine gate_dst (N := 1) rfl ?_); refine box_ev (N := 1) (cs := #[.string a0_0, .slice A0_1 l0_1.length c0_1, .slice A0_2 l0_2.length c0_2]) (t := 25) ?_; intro gb217 hg w18 hbox hb; have BK217 := am hbox; have GW217 := gwl hg; have GE217 := GW217; replace HB := bsl hb; clear hb hbox hg; have z19 := cf3 BK217.1) | ((with_reducible refine gate_callee (f := 37) rfl ?_); refine gC 6 Try.func37 _ (netclass_valid.calls k a0_0 _ _ l0_1 _ _ l0_2 false _ (csb HR0_1 HB) HC0_1.1 (csb HR0_2 HB) HC0_2.1 A2.1) ?_; rintro e w20 ⟨rfl, hb⟩; refine ⟨_, rfl, ?_⟩; replace BK217 := bbh BK217 hb; replace HB := bst hb; (try clear hb)))
  go_ret
  exact ⟨per, pbg⟩
 subst c3
 rw [if_pos rfl] at H
 replace H := bnd H
 obtain ⟨t219, A4, H⟩ := H
 (try dsimp only at H)
 replace H := bnd H
 obtain ⟨t222, A5, H⟩ := H
 (try dsimp only at H)
 have H' := am H
 clear H
 go_enter Try.func16, Try.ntmps16
 go_wp2_with (first | ((with_reducible refine gate_dst (N := 1) rfl ?_); refine box_ev (N := 1) (cs := #[.string a0_0, .slice A0_1 l0_1.length c0_1, .slice A0_2 l0_2.length c0_2]) (t := 25) ?_; intro gb217 hg w6 hbox hb; have BK217 := am hbox; have GW217 := gwl hg; have GE217 := GW217; replace HB := bsl hb; clear hb hbox hg; have z7 := cf3 BK217.1) | ((with_reducible refine gate_callee (f := 37) rfl ?_); refine gC 6 Try.func37 _ (netclass_valid.calls k a0_0 _ _ l0_1 _ _ l0_2 true _ (csb HR0_1 HB) HC0_1.1 (csb HR0_2 HB) HC0_2.1 A2.1) ?_; rintro e w8 ⟨rfl, hb⟩; refine ⟨_, rfl, ?_⟩; replace BK217 := bbh BK217 hb; replace HB := bst hb; (try clear hb); have z9 := cf3 BK217.1) | ((with_reducible refine gate_callee (f := 12) rfl ?_); refine gC 9 Try.func12 _ (netclass_Flow.calls k a0_0 _ _ l0_1 _ _ l0_2 t219 _ (csb HR0_1 HB) HC0_1.1 (csb HR0_2 HB) HC0_2.1 A4.1) ?_; rintro e w10 ⟨v220, rfl, ho0, hb⟩; refine ⟨_, rfl, ?_⟩; have HO221 := am (Kd.S_lower ho0 (below_size pbg)); replace BK217 := bbh BK217 hb; replace HB := bst hb; (try clear hb); (try clear ho0); obtain ⟨Ao11, co11, eo11⟩ := Kd.S_slice HO221.1; subst eo11) | ((with_reducible refine gate_callee (f := 43) rfl ?_); refine gC 10 Try.func43 _ (digraph_Components.calls k _ _ t219 t222 _ (csd ((Kd.S_reads' HO221.1).2.2)) ((Kd.S_reads' HO221.1).2.1) A5.1) ?_; rintro e w12 ⟨v223, rfl, ho0, hb⟩; refine ⟨_, rfl, ?_⟩; have HO224 := am (Kd.R_lower ho0 (below_size pbg)); replace HO221 := am (Kd.S_elder' (pks HO221.1) (Kd.R_base ho0) hb); replace BK217 := bbh BK217 hb; replace HB := bst hb; (try clear hb); (try clear ho0); obtain ⟨Ao13, co13, eo13⟩ := Kd.R_slice HO224.1; subst eo13))
 go_loopg [12] k (fun kq v12 w' => ∃ (x12_1 : Int), v12 = .int .i64 x12_1 ∧ Aside0 (netclass_Strong.l0 kq t222 (t222.length : Int) x12_1 = some r) ∧ Aside0 (kq ≤ k) ∧ Aside0 (Kd.R (Kd.int .i64) 3 w' w.heap.size (fun _ => True) (.slice Ao13 t222.length co13) t222) ∧ Aside0 (w'.heap[gb217]? = some (.cells #[.string a0_0, (.slice A0_1 l0_1.length c0_1), (.slice A0_2 l0_2.length c0_2)] 25 (0, 0))) ∧ Aside0 (Below w.heap.size w w'))
 case atStart => exact ⟨(0), prs, H', ⟨Nat.le_refl _⟩, ⟨pkr HO224.1⟩, ⟨pbk BK217.1⟩, ⟨pbg⟩⟩
 clear H'
 try clear c3 z7 z9
 obtain ⟨x12_1, rfl, HA, HK1, HO_10, BK217, HB⟩ := hrel
 obtain _ | k1 := gk
 ·exact absurd HA.1 (by simp [netclass_Strong.l0])
 have H := HA.1
 clear HA
 simp only [netclass_Strong.l0] at H
 by_cases c14 : x12_1 < (t222.length : Int)
 rotate_left
 ·rw [if_neg c14] at H
  have c14b0 : decide (x12_1 < (t222.length : Int)) = false := decide_eq_false c14
  clear c14
  obtain rfl := Option.some.inj H
  go_wp2
  go_ret
  exact ⟨per, pbg⟩
 rw [if_pos c14] at H
 have c14b0 : decide (x12_1 < (t222.length : Int)) = true := decide_eq_true c14
 clear c14
 replace H := ifp H
 obtain ⟨c15, H⟩ := H
 have c15b0 := decide_eq_true c15
 clear c15
 replace H := ifp H
 obtain ⟨c16, H⟩ := H
 have c16b0 := decide_eq_true c16
 clear c16
 by_cases c17 : (rd t222 x12_1) = 0
 rotate_left
 ·rw [if_neg c17] at H
  have c17b0 : ((rd t222 x12_1) == 0) = false := beq_eq_false_iff_ne.mpr c17
  have c17b1 : ((rd t222 x12_1) != 0) = true := bne_iff_ne.mpr c17
  obtain rfl := Option.some.inj H
  obtain ⟨p225, q225, ad225, e225, hx225_0⟩ := dint (Kd.R_reads' HO_10.1).2.2 x12_1
  cases e225
  go_wp2
  go_ret
  exact ⟨per, pbg⟩
 rw [if_pos c17] at H
 have c17b0 : ((rd t222 x12_1) == 0) = true := beq_iff_eq.mpr c17
 have c17b1 : ((rd t222 x12_1) != 0) = false := bne_eq_false_iff_eq.mpr c17
 clear c17
 have H' := am H
 clear H
 obtain ⟨p225, q225, ad225, e225, hx225_0⟩ := dint (Kd.R_reads' HO_10.1).2.2 x12_1
 cases e225
 go_wp2
 go_roundg k1
 case measure => have := HK1.1; omega
 case rel => exact ⟨(wrap64 (x12_1 + 1)), prs, H', ⟨by have := HK1.1; omega⟩, ⟨pkr HO_10.1⟩, ⟨pbk BK217.1⟩, ⟨pbg⟩⟩

/-! ### net_Ordinary: function 63 -/
-- IMPORTS Derived.RegionTactic,Derived.BigRegion,Derived.Laws.EntriesVeiled
def onesB (l : List S43) : Bool := l.all fun a => a.f1 == 1
def ordB (t : S41) : Bool := onesB t.f1 && onesB t.f2
def net_Ordinary.f (k : Nat) (a0_0 : ByteArray) (l0_1 : List (S46)) (l0_2 : List (S41)) : Option Bool := if (l0_2.all ordB) = true then net_valid.f k a0_0 l0_1 l0_2 else some false
theorem net_Ordinary.mono : ∀ a0 a1 a2 k, LeO (net_Ordinary.f k a0 a1 a2) (net_Ordinary.f (k + 1) a0 a1 a2) := by
 intro a0 a1 a2 k
 unfold net_Ordinary.f
 exact LeO.ite (net_valid.mono _ _ _ _) (LeO.refl _)
theorem all_at {α : Type} (q : α → Bool) (z : α) (l : List α) (i : Int) (h0 : 0 ≤ i) (h1 : i < (l.length : Int)) : (l.drop i.toNat).all q = (q (l.getD i.toNat z) && (l.drop (i + 1).toNat).all q) := by
 rw [show (i + 1).toNat = i.toNat + 1 by omega, List.drop_eq_getElem_cons (show i.toNat < l.length by omega), List.all_cons, List.getD_eq_getElem?_getD, List.getElem?_eq_getElem (by omega)]
 rfl
theorem arc_facts {W : World} {B : Nat} {x y : Value} (h : W.heap[B]? = some (.cells #[x, y] 43 (0, 0))) : W.cell? ⟨B, 0, none⟩ = some x ∧ W.cell? ⟨B, 1, none⟩ = some y := ⟨(blk_cell h 0).trans rfl, (blk_cell h 1).trans rfl⟩
theorem two_facts {W : World} {B : Nat} {x y : Value} (h : W.heap[B]? = some (.cells #[x, y] 39 (0, 0))) : W.cell? ⟨B, 0, none⟩ = some x ∧ W.cell? ⟨B, 1, none⟩ = some y := ⟨(blk_cell h 0).trans rfl, (blk_cell h 1).trans rfl⟩
set_option maxHeartbeats 4000000 in
set_option maxRecDepth 100000 in
theorem net_Ordinary.calls (k : Nat) (a0_0 : ByteArray) (A0_1 : Option Addr) (c0_1 : Nat) (l0_1 : List (S46)) (A0_2 : Option Addr) (c0_2 : Nat) (l0_2 : List (S41)) (r : Bool) (w : World) (hr0_1 : Kd.C k46 w A0_1 l0_1.length l0_1) (hc0_1 : l0_1.length ≤ c0_1) (hr0_2 : Kd.C k41 w A0_2 l0_2.length l0_2) (hc0_2 : l0_2.length ≤ c0_2) (h : net_Ordinary.f k a0_0 l0_1 l0_2 = some r) :
  Calls Try.prog 63 #[.agg #[.string a0_0, .slice A0_1 l0_1.length c0_1, .slice A0_2 l0_2.length c0_2]] w fun e w' => e = .returned (.bool r) ∧ Below w.heap.size w w' := by
 have hu1 := Try.underlying25
 have hu2 := Try.underlying41
 have hu3 := Try.underlying43
 have HR1 := Aside0.mk hr0_1
 have HC1 := Aside0.mk hc0_1
 have HR2 := Aside0.mk hr0_2
 have HC2 := Aside0.mk hc0_2
 clear hr0_1 hc0_1 hr0_2 hc0_2
 unfold net_Ordinary.f at h
 have H := Aside0.mk h
 clear h
 have HX := Aside0.mk (alloc_new w (.cells #[.string a0_0, .slice A0_1 l0_1.length c0_1, .slice A0_2 l0_2.length c0_2] 25))
 have HB := Aside0.mk (show Below w.heap.size w (w.alloc (.cells #[.string a0_0, .slice A0_1 l0_1.length c0_1, .slice A0_2 l0_2.length c0_2] 25)) from below_alloc (Below.refl _ _) _)
 obtain ⟨cx0, cx1, cx2⟩ := net_facts HX.out
 have HM := Aside0.mk (show (l0_2.length : Int) ≤ 9223372036854775807 by have := HR2.out.2.1; omega)
 have HD := Aside0.mk (show l0_2.all ordB = (l0_2.drop (0 : Int).toNat).all ordB from rfl)
 go_enter Try.func63, Try.ntmps63
 go_wp2
 clear cx0 cx1 cx2
 go_loopg [12] l0_2.length (fun kq v12 w' => ∃ (i : Int), v12 = .int .i64 i ∧ Aside0 (0 ≤ i) ∧ Aside0 (kq = l0_2.length - i.toNat) ∧ Aside0 (l0_2.all ordB = (l0_2.drop i.toNat).all ordB) ∧ Aside0 (w'.heap[w.heap.size]? = some (.cells #[.string a0_0, .slice A0_1 l0_1.length c0_1, .slice A0_2 l0_2.length c0_2] 25 (0, 0))) ∧ Aside0 (Below w.heap.size w w'))
 case atStart => exact ⟨0, rfl, ⟨Int.le_refl _⟩, ⟨rfl⟩, HD, HX, HB⟩
 case round =>
  clear HD HX HB
  obtain ⟨i, rfl, HP, HK, HD, HX, HB⟩ := hrel
  by_cases d1 : i < (l0_2.length : Int)
  case neg =>
   have d1b : decide (i < (l0_2.length : Int)) = false := decide_eq_false d1
   have hh := H.out
   have hd := HD.out
   rw [List.drop_eq_nil_of_le (by have := HP.out; omega)] at hd
   replace hd : l0_2.all ordB = true := hd
   rw [if_pos hd] at hh
   have HV := Aside0.mk hh
   obtain ⟨cx0, cx1, cx2⟩ := net_facts HX.out
   clear hh hd d1
   go_wp2_with (first | (go_at_call 81; refine (net_valid.calls k _ _ _ _ _ _ _ _ _ (Kd.C_below HR1.out HB.out) HC1.out (Kd.C_below HR2.out HB.out) HC2.out HV.out).mono ?_; rintro e w3 ⟨rfl, hb⟩; have HB3 := Aside0.mk (HB.out.trans (hb.mono HB.out.size)); clear hb))
   go_ret
   exact ⟨rfl, HB3.out⟩
  have d1b : decide (i < (l0_2.length : Int)) = true := decide_eq_true d1
  have d2 := HP.out
  have HS := Aside0.mk (all_at ordB z41 l0_2 i d2 d1)
  obtain ⟨ad, A1, c1, A2, c2, A3, c3, eA, y0, y1, y2, y3, y4, m1, g1, m2, g2, m3, g3⟩ := at_T41 HR2.out i d2 d1
  subst eA
  have u0 := pw_cell_below HB.out y0
  have u1 := pw_cell_below HB.out y1
  have u2 := pw_cell_below HB.out y2
  have u3 := pw_cell_below HB.out y3
  have u4 := pw_cell_below HB.out y4
  clear y0 y1 y2 y3 y4
  have G1 := Aside0.mk g1
  have G2 := Aside0.mk g2
  clear m1 m2 m3 g1 g2 g3
  have q1 : (0 ≤ i) = True := eq_true d2
  have q2 : (i < (l0_2.length : Int)) = True := eq_true d1
  obtain ⟨v0, v1, v2, v3, v4⟩ := trans_facts (alloc_new wr (.cells #[.string (rd_T41 l0_2 i).f0, .slice A1 (rd_T41 l0_2 i).f1.length c1, .slice A2 (rd_T41 l0_2 i).f2.length c2, .slice A3 (rd_T41 l0_2 i).f3.length c3, .int .i64 (rd_T41 l0_2 i).f4] 41))
  have hs1 : (wr.alloc (.cells #[.string (rd_T41 l0_2 i).f0, .slice A1 (rd_T41 l0_2 i).f1.length c1, .slice A2 (rd_T41 l0_2 i).f2.length c2, .slice A3 (rd_T41 l0_2 i).f3.length c3, .int .i64 (rd_T41 l0_2 i).f4] 41)).heap.size = wr.heap.size + 1 := by simp
  have HT := Aside0.mk (show ((wr.alloc (.cells #[.string (rd_T41 l0_2 i).f0, .slice A1 (rd_T41 l0_2 i).f1.length c1, .slice A2 (rd_T41 l0_2 i).f2.length c2, .slice A3 (rd_T41 l0_2 i).f3.length c3, .int .i64 (rd_T41 l0_2 i).f4] 41)).alloc (.cells #[.slice A1 (rd_T41 l0_2 i).f1.length c1, .slice A2 (rd_T41 l0_2 i).f2.length c2] 39)).heap[wr.heap.size + 1]? = some (.cells #[.slice A1 (rd_T41 l0_2 i).f1.length c1, .slice A2 (rd_T41 l0_2 i).f2.length c2] 39 (0, 0)) by rw [← hs1]; exact alloc_new _ _)
  have HX2 := Aside0.mk (blk_below HX.out (below_alloc (below_alloc (Below.refl _ _) (.cells #[.string (rd_T41 l0_2 i).f0, .slice A1 (rd_T41 l0_2 i).f1.length c1, .slice A2 (rd_T41 l0_2 i).f2.length c2, .slice A3 (rd_T41 l0_2 i).f3.length c3, .int .i64 (rd_T41 l0_2 i).f4] 41)) (.cells #[.slice A1 (rd_T41 l0_2 i).f1.length c1, .slice A2 (rd_T41 l0_2 i).f2.length c2] 39)))
  have HB2 := Aside0.mk (show Below w.heap.size w ((wr.alloc (.cells #[.string (rd_T41 l0_2 i).f0, .slice A1 (rd_T41 l0_2 i).f1.length c1, .slice A2 (rd_T41 l0_2 i).f2.length c2, .slice A3 (rd_T41 l0_2 i).f3.length c3, .int .i64 (rd_T41 l0_2 i).f4] 41)).alloc (.cells #[.slice A1 (rd_T41 l0_2 i).f1.length c1, .slice A2 (rd_T41 l0_2 i).f2.length c2] 39)) from below_alloc (below_alloc HB.out _) _)
  have HQ := Aside0.mk (show ordB (rd_T41 l0_2 i) = (onesB (rd_T41 l0_2 i).f1 && onesB (rd_T41 l0_2 i).f2) from rfl)
  clear hs1
  go_wp2
  clear v0 v1 v2 v3 v4 u0 u1 u2 u3 u4 HX HB
  obtain ⟨Bt, hBt⟩ : ∃ Bt, Bt = wr.heap.size + 1 := ⟨_, rfl⟩
  rw [← hBt] at HT ⊢
  clear hBt
  go_loopg [22] 2 (fun kq v22 w' => ∃ (j : Nat), v22 = .int .i64 j ∧ Aside0 (kq = 2 - j) ∧ Aside0 ((j = 0 ∧ ordB (rd_T41 l0_2 i) = (onesB (rd_T41 l0_2 i).f1 && onesB (rd_T41 l0_2 i).f2)) ∨ (j = 1 ∧ ordB (rd_T41 l0_2 i) = onesB (rd_T41 l0_2 i).f2) ∨ (j = 2 ∧ ordB (rd_T41 l0_2 i) = true)) ∧ Aside0 (w'.heap[w.heap.size]? = some (.cells #[.string a0_0, .slice A0_1 l0_1.length c0_1, .slice (some ad) l0_2.length c0_2] 25 (0, 0))) ∧ Aside0 (Below w.heap.size w w') ∧ Aside0 (w'.heap[Bt]? = some (.cells #[.slice A1 (rd_T41 l0_2 i).f1.length c1, .slice A2 (rd_T41 l0_2 i).f2.length c2] 39 (0, 0))))
  case atStart => exact ⟨0, rfl, ⟨rfl⟩, ⟨.inl ⟨rfl, HQ.out⟩⟩, HX2, HB2, HT⟩
  case round =>
   clear HQ HX2 HB2 HT
   obtain ⟨j, rfl, HKj, HQ, HX, HB, HT⟩ := hrel
   have hq0 := HQ.out
   clear HQ
   rcases hq0 with ⟨rfl, hq⟩ | ⟨rfl, hq⟩ | ⟨rfl, hq⟩
   ·skip
    have HQ := Aside0.mk hq
    obtain ⟨b0, b1⟩ := two_facts HT.out
    have HD2 := Aside0.mk (show onesB (rd_T41 l0_2 i).f1 = ((rd_T41 l0_2 i).f1.drop (0 : Int).toNat).all (fun a => a.f1 == 1) from rfl)
    have HM2 := Aside0.mk (show ((rd_T41 l0_2 i).f1.length : Int) ≤ 9223372036854775807 by have := G1.out.2.1; omega)
    clear hq
    go_wp2
    clear b0 b1
    go_loopg [28] (rd_T41 l0_2 i).f1.length (fun kq v28 w' => ∃ (n : Int), v28 = .int .i64 n ∧ Aside0 (0 ≤ n) ∧ Aside0 (kq = (rd_T41 l0_2 i).f1.length - n.toNat) ∧ Aside0 (onesB (rd_T41 l0_2 i).f1 = ((rd_T41 l0_2 i).f1.drop n.toNat).all (fun a => a.f1 == 1)) ∧ Aside0 (w'.heap[w.heap.size]? = some (.cells #[.string a0_0, .slice A0_1 l0_1.length c0_1, .slice (some ad) l0_2.length c0_2] 25 (0, 0))) ∧ Aside0 (Below w.heap.size w w') ∧ Aside0 (w'.heap[Bt]? = some (.cells #[.slice A1 (rd_T41 l0_2 i).f1.length c1, .slice A2 (rd_T41 l0_2 i).f2.length c2] 39 (0, 0))))
    case atStart => exact ⟨0, rfl, ⟨Int.le_refl _⟩, ⟨rfl⟩, HD2, HX, HB, HT⟩
    case round =>
     clear HD2 HX HB HT
     obtain ⟨n, rfl, HPn, HKn, HD2, HX, HB, HT⟩ := hrel
     by_cases e1 : n < ((rd_T41 l0_2 i).f1.length : Int)
     case neg =>
      have e1b : decide (n < ((rd_T41 l0_2 i).f1.length : Int)) = false := decide_eq_false e1
      have hd := HD2.out
      rw [List.drop_eq_nil_of_le (by have := HPn.out; omega)] at hd
      have hq := HQ.out
      rw [hd] at hq
      have HQ2 := Aside0.mk hq
      clear hd hq e1
      go_wp2
      go_roundg 1
      case measure => have := HKj.out; omega
      case rel => exact ⟨1, by simp; done, ⟨by omega⟩, ⟨.inr (.inl ⟨rfl, by simpa using HQ2.out⟩)⟩, HX, HB, HT⟩
     have e1b : decide (n < ((rd_T41 l0_2 i).f1.length : Int)) = true := decide_eq_true e1
     have e2 := HPn.out
     have HS2 := Aside0.mk (all_at (fun a => a.f1 == 1) z43 (rd_T41 l0_2 i).f1 n e2 e1)
     obtain ⟨ad2, eA2, y0, y1⟩ := at_T43 G1.out n e2 e1
     subst eA2
     have u0 := pw_cell_below HB.out y0
     have u1 := pw_cell_below HB.out y1
     clear y0 y1
     have q3 : (0 ≤ n) = True := eq_true e2
     have q4 : (n < ((rd_T41 l0_2 i).f1.length : Int)) = True := eq_true e1
     obtain ⟨v0, v1⟩ := arc_facts (alloc_new wr (.cells #[.int .i64 (rd_T43 (rd_T41 l0_2 i).f1 n).f0, .int .i64 (rd_T43 (rd_T41 l0_2 i).f1 n).f1] 43))
     cases f1 : ((rd_T43 (rd_T41 l0_2 i).f1 n).f1 == 1) with
     | false =>
      have f2 : ((rd_T43 (rd_T41 l0_2 i).f1 n).f1 != 1) = true := by rw [bne, f1]; rfl
      have HF := Aside0.mk (show l0_2.all ordB = false by rw [HD.out, HS.out]; show (ordB (rd_T41 l0_2 i) && _) = false; rw [HQ.out, HD2.out, HS2.out]; show ((((rd_T43 (rd_T41 l0_2 i).f1 n).f1 == 1) && _) && _ && _) = false; rw [f1]; rfl)
      have hh := H.out
      rw [if_neg (by rw [HF.out]; exact Bool.false_ne_true)] at hh
      obtain rfl := Option.some.inj hh
      clear hh
      go_wp2
      go_ret
      exact ⟨rfl, below_alloc HB.out _⟩
     | true =>
      have f2 : ((rd_T43 (rd_T41 l0_2 i).f1 n).f1 != 1) = false := by rw [bne, f1]; rfl
      go_wp2
      go_roundg ((rd_T41 l0_2 i).f1.length - (n.toNat + 1))
      case measure => have := HKn.out; omega
      case rel => exact ⟨n + 1, (by congr 1; have := HM2.out; (first | omega | (unfold wrap64; omega) | (show wrap64 _ = _; unfold wrap64; omega))), ⟨by omega⟩, ⟨by omega⟩, ⟨by rw [HD2.out, HS2.out]; show ((((rd_T43 (rd_T41 l0_2 i).f1 n).f1 == 1)) && _) = _; rw [f1, Bool.true_and]⟩, ⟨blk_below HX.out (below_alloc (Below.refl _ _) _)⟩, ⟨below_alloc HB.out _⟩, ⟨blk_below HT.out (below_alloc (Below.refl _ _) _)⟩⟩
   ·skip
    have HQ := Aside0.mk hq
    obtain ⟨b0, b1⟩ := two_facts HT.out
    have HD2 := Aside0.mk (show onesB (rd_T41 l0_2 i).f2 = ((rd_T41 l0_2 i).f2.drop (0 : Int).toNat).all (fun a => a.f1 == 1) from rfl)
    have HM2 := Aside0.mk (show ((rd_T41 l0_2 i).f2.length : Int) ≤ 9223372036854775807 by have := G2.out.2.1; omega)
    clear hq
    go_wp2
    clear b0 b1
    go_loopg [28] (rd_T41 l0_2 i).f2.length (fun kq v28 w' => ∃ (n : Int), v28 = .int .i64 n ∧ Aside0 (0 ≤ n) ∧ Aside0 (kq = (rd_T41 l0_2 i).f2.length - n.toNat) ∧ Aside0 (onesB (rd_T41 l0_2 i).f2 = ((rd_T41 l0_2 i).f2.drop n.toNat).all (fun a => a.f1 == 1)) ∧ Aside0 (w'.heap[w.heap.size]? = some (.cells #[.string a0_0, .slice A0_1 l0_1.length c0_1, .slice (some ad) l0_2.length c0_2] 25 (0, 0))) ∧ Aside0 (Below w.heap.size w w') ∧ Aside0 (w'.heap[Bt]? = some (.cells #[.slice A1 (rd_T41 l0_2 i).f1.length c1, .slice A2 (rd_T41 l0_2 i).f2.length c2] 39 (0, 0))))
    case atStart => exact ⟨0, rfl, ⟨Int.le_refl _⟩, ⟨rfl⟩, HD2, HX, HB, HT⟩
    case round =>
     clear HD2 HX HB HT
     obtain ⟨n, rfl, HPn, HKn, HD2, HX, HB, HT⟩ := hrel
     by_cases e1 : n < ((rd_T41 l0_2 i).f2.length : Int)
     case neg =>
      have e1b : decide (n < ((rd_T41 l0_2 i).f2.length : Int)) = false := decide_eq_false e1
      have hd := HD2.out
      rw [List.drop_eq_nil_of_le (by have := HPn.out; omega)] at hd
      have hq := HQ.out
      rw [hd] at hq
      have HQ2 := Aside0.mk hq
      clear hd hq e1
      go_wp2
      go_roundg 0
      case measure => have := HKj.out; omega
      case rel => exact ⟨2, by simp; done, ⟨by omega⟩, ⟨.inr (.inr ⟨rfl, by simpa using HQ2.out⟩)⟩, HX, HB, HT⟩
     have e1b : decide (n < ((rd_T41 l0_2 i).f2.length : Int)) = true := decide_eq_true e1
     have e2 := HPn.out
     have HS2 := Aside0.mk (all_at (fun a => a.f1 == 1) z43 (rd_T41 l0_2 i).f2 n e2 e1)
     obtain ⟨ad2, eA2, y0, y1⟩ := at_T43 G2.out n e2 e1
     subst eA2
     have u0 := pw_cell_below HB.out y0
     have u1 := pw_cell_below HB.out y1
     clear y0 y1
     have q3 : (0 ≤ n) = True := eq_true e2
     have q4 : (n < ((rd_T41 l0_2 i).f2.length : Int)) = True := eq_true e1
     obtain ⟨v0, v1⟩ := arc_facts (alloc_new wr (.cells #[.int .i64 (rd_T43 (rd_T41 l0_2 i).f2 n).f0, .int .i64 (rd_T43 (rd_T41 l0_2 i).f2 n).f1] 43))
     cases f1 : ((rd_T43 (rd_T41 l0_2 i).f2 n).f1 == 1) with
     | false =>
      have f2 : ((rd_T43 (rd_T41 l0_2 i).f2 n).f1 != 1) = true := by rw [bne, f1]; rfl
      have HF := Aside0.mk (show l0_2.all ordB = false by rw [HD.out, HS.out]; show (ordB (rd_T41 l0_2 i) && _) = false; rw [HQ.out, HD2.out, HS2.out]; show ((((rd_T43 (rd_T41 l0_2 i).f2 n).f1 == 1) && _) && _) = false; rw [f1]; rfl)
      have hh := H.out
      rw [if_neg (by rw [HF.out]; exact Bool.false_ne_true)] at hh
      obtain rfl := Option.some.inj hh
      clear hh
      go_wp2
      go_ret
      exact ⟨rfl, below_alloc HB.out _⟩
     | true =>
      have f2 : ((rd_T43 (rd_T41 l0_2 i).f2 n).f1 != 1) = false := by rw [bne, f1]; rfl
      go_wp2
      go_roundg ((rd_T41 l0_2 i).f2.length - (n.toNat + 1))
      case measure => have := HKn.out; omega
      case rel => exact ⟨n + 1, (by congr 1; have := HM2.out; (first | omega | (unfold wrap64; omega) | (show wrap64 _ = _; unfold wrap64; omega))), ⟨by omega⟩, ⟨by omega⟩, ⟨by rw [HD2.out, HS2.out]; show ((((rd_T43 (rd_T41 l0_2 i).f2 n).f1 == 1)) && _) = _; rw [f1, Bool.true_and]⟩, ⟨blk_below HX.out (below_alloc (Below.refl _ _) _)⟩, ⟨below_alloc HB.out _⟩, ⟨blk_below HT.out (below_alloc (Below.refl _ _) _)⟩⟩
   ·skip
    have HQ := Aside0.mk hq
    clear hq
    go_wp2
    go_roundg (l0_2.length - (i.toNat + 1))
    case measure => have := HK.out; omega
    case rel => exact ⟨i + 1, (by congr 1; have := HM.out; (first | omega | (unfold wrap64; omega) | (show wrap64 _ = _; unfold wrap64; omega))), ⟨by omega⟩, ⟨by omega⟩, ⟨by rw [HD.out, HS.out]; show (ordB (rd_T41 l0_2 i) && _) = _; rw [HQ.out, Bool.true_and]⟩, HX, HB⟩

/-! ### netclass_simple: function 44 -/
-- IMPORTS Derived.RegionTactic,Derived.BigRegion,Derived.Laws.EntriesVeiled
def netclass_simple.f (k : Nat) (a0_0 : ByteArray) (l0_1 : List (S46)) (l0_2 : List (S41)) : Option Bool := (net_Plain.f k a0_0 l0_1 l0_2).bind fun a => if a = true then net_Ordinary.f k a0_0 l0_1 l0_2 else some false
theorem netclass_simple.mono : ∀ a0 a1 a2 k, LeO (netclass_simple.f k a0 a1 a2) (netclass_simple.f (k + 1) a0 a1 a2) := by
 intro a0 a1 a2 k
 unfold netclass_simple.f
 exact LeO.bind (net_Plain.mono _ _ _ _) (fun _ => LeO.ite (net_Ordinary.mono _ _ _ _) (LeO.refl _))
section
variable {w : World} {B : Nat} {nm : ByteArray} {A1 A2 : Option Addr} {c1 c2 : Nat} {ps : List (S46)} {ts : List (S41)}
theorem simple_one (k : Nat) (r : Bool) (hb : w.heap[B]? = some (.cells #[.string nm, .slice A1 ps.length c1, .slice A2 ts.length c2] 25 (0, 0)))
  (h1 : Kd.C k46 w A1 ps.length ps) (g1 : ps.length ≤ c1) (h2 : Kd.C k41 w A2 ts.length ts) (g2 : ts.length ≤ c2) (h : net_Plain.f k nm ps ts = some r) :
  Calls Try.prog 75 #[.pointer (some ⟨B, 0, none⟩)] w fun e w' => e = .returned (.bool r) ∧ Below w.heap.size w w' := by
 have hu1 := Try.underlying25
 obtain ⟨cx0, cx1, cx2, fx0, fx1, fx2⟩ := cf3 hb
 have H1 := Aside0.mk h1
 have G1 := Aside0.mk g1
 have H2 := Aside0.mk h2
 have G2 := Aside0.mk g2
 have HV := Aside0.mk h
 clear h1 g1 h2 g2 h hb
 go_enter Try.func75, Try.ntmps75
 go_wp2_with (first | (go_at_call 62; refine (net_Plain.calls k _ _ _ _ _ _ _ _ _ H1.out G1.out H2.out G2.out HV.out).mono ?_; rintro e w3 ⟨rfl, hb⟩; have HB3 := Aside0.mk hb; clear hb))
 go_ret
 exact ⟨rfl, HB3.out⟩
theorem simple_two (k : Nat) (r : Bool) (hb : w.heap[B]? = some (.cells #[.string nm, .slice A1 ps.length c1, .slice A2 ts.length c2] 25 (0, 0)))
  (h1 : Kd.C k46 w A1 ps.length ps) (g1 : ps.length ≤ c1) (h2 : Kd.C k41 w A2 ts.length ts) (g2 : ts.length ≤ c2) (h : net_Ordinary.f k nm ps ts = some r) :
  Calls Try.prog 76 #[.pointer (some ⟨B, 0, none⟩)] w fun e w' => e = .returned (.bool r) ∧ Below w.heap.size w w' := by
 have hu1 := Try.underlying25
 obtain ⟨cx0, cx1, cx2, fx0, fx1, fx2⟩ := cf3 hb
 have H1 := Aside0.mk h1
 have G1 := Aside0.mk g1
 have H2 := Aside0.mk h2
 have G2 := Aside0.mk g2
 have HV := Aside0.mk h
 clear h1 g1 h2 g2 h hb
 go_enter Try.func76, Try.ntmps76
 go_wp2_with (first | (go_at_call 63; refine (net_Ordinary.calls k _ _ _ _ _ _ _ _ _ H1.out G1.out H2.out G2.out HV.out).mono ?_; rintro e w3 ⟨rfl, hb⟩; have HB3 := Aside0.mk hb; clear hb))
 go_ret
 exact ⟨rfl, HB3.out⟩
def simpleAt (k : Nat) (nm : ByteArray) (ps : List (S46)) (ts : List (S41)) (r : Bool) (j : Nat) : Prop := (j = 0 → netclass_simple.f k nm ps ts = some r) ∧ (j = 1 → net_Ordinary.f k nm ps ts = some r) ∧ (j = 2 → r = true)
set_option maxHeartbeats 4000000 in
set_option maxRecDepth 100000 in
theorem simple_all (k : Nat) (r : Bool) {S : Nat} (hb : w.heap[B]? = some (.cells #[.string nm, .slice A1 ps.length c1, .slice A2 ts.length c2] 25 (0, 0)))
  (hs : w.heap[S]? = some (.cells #[.func (.func 75) #[] #[.pointer (some ⟨B, 0, none⟩)], .func (.func 76) #[] #[.pointer (some ⟨B, 0, none⟩)]] 28 (0, 0)))
  (h1 : Kd.C k46 w A1 ps.length ps) (g1 : ps.length ≤ c1) (h2 : Kd.C k41 w A2 ts.length ts) (g2 : ts.length ≤ c2) (h : netclass_simple.f k nm ps ts = some r) :
  Calls Try.prog 74 #[.slice (some ⟨S, 0, none⟩) 2 2] w fun e w' => e = .returned (.bool r) ∧ Below w.heap.size w w' := by
 have H1 := Aside0.mk h1
 have G1 := Aside0.mk g1
 have H2 := Aside0.mk h2
 have G2 := Aside0.mk g2
 have HN := Aside0.mk hb
 have HS := Aside0.mk hs
 have HV := Aside0.mk (show simpleAt k nm ps ts r 0 from ⟨fun _ => h, fun e => (by cases e), fun e => (by cases e)⟩)
 clear h1 g1 h2 g2 h hb hs
 go_enter Try.func74, Try.ntmps74
 go_wp2
 go_loopg [7] 2 (fun kq v7 w' => ∃ j : Nat, v7 = .int .i64 j ∧ Aside0 (kq + j = 2) ∧ Aside0 (simpleAt k nm ps ts r j) ∧ Aside0 (Below w.heap.size w w'))
 case atStart => exact ⟨0, rfl, ⟨rfl⟩, HV, ⟨Below.refl _ _⟩⟩
 case round =>
  clear HV
  obtain ⟨j, rfl, HJ, HV, HB⟩ := hrel
  have HS2 := Aside0.mk (blk_below HS.out HB.out)
  have HN2 := Aside0.mk (blk_below HN.out HB.out)
  have H12 := Aside0.mk (Kd.C_below H1.out HB.out)
  have H22 := Aside0.mk (Kd.C_below H2.out HB.out)
  obtain ⟨cx0, cx1, fx0, fx1⟩ := cf2 HS2.out
  match j, HJ, HV with
  | 0, HJ, HV =>
   obtain ⟨t, ht, hr⟩ := Option.bind_eq_some_iff.mp (HV.out.1 rfl)
   have HT := Aside0.mk ht
   have HR := Aside0.mk hr
   clear ht hr
   cases t with
   | false =>
    have HR2 := Aside0.mk (Option.some.inj ((if_neg Bool.false_ne_true).symm.trans HR.out))
    clear HR
    go_wp2_with (first | (go_at_call 75; refine (simple_one k _ HN2.out H12.out G1.out H22.out G2.out HT.out).mono ?_; rintro e w3 ⟨rfl, hb⟩; have HB3 := Aside0.mk (HB.out.trans (hb.mono HB.out.size)); clear hb))
    go_ret
    exact ⟨by rw [← HR2.out]; rfl, HB3.out⟩
   | true =>
    have HR2 := Aside0.mk ((if_pos (rfl : true = true)).symm.trans HR.out)
    clear HR
    go_wp2_with (first | (go_at_call 75; refine (simple_one k _ HN2.out H12.out G1.out H22.out G2.out HT.out).mono ?_; rintro e w3 ⟨rfl, hb⟩; have HB3 := Aside0.mk (HB.out.trans (hb.mono HB.out.size)); clear hb))
    go_roundg 1
    case measure => have := HJ.out; omega
    case rel => exact ⟨1, rfl, ⟨rfl⟩, ⟨⟨fun e => (by cases e), fun _ => HR2.out, fun e => (by cases e)⟩⟩, HB3⟩
  | 1, HJ, HV =>
   have HT := Aside0.mk (HV.out.2.1 rfl)
   cases r with
   | false =>
    go_wp2_with (first | (go_at_call 76; refine (simple_two k _ HN2.out H12.out G1.out H22.out G2.out HT.out).mono ?_; rintro e w3 ⟨rfl, hb⟩; have HB3 := Aside0.mk (HB.out.trans (hb.mono HB.out.size)); clear hb))
    go_ret
    exact ⟨rfl, HB3.out⟩
   | true =>
    go_wp2_with (first | (go_at_call 76; refine (simple_two k _ HN2.out H12.out G1.out H22.out G2.out HT.out).mono ?_; rintro e w3 ⟨rfl, hb⟩; have HB3 := Aside0.mk (HB.out.trans (hb.mono HB.out.size)); clear hb))
    go_roundg 0
    case measure => have := HJ.out; omega
    case rel => exact ⟨2, rfl, ⟨rfl⟩, ⟨⟨fun e => (by cases e), fun e => (by cases e), fun _ => rfl⟩⟩, HB3⟩
  | j + 2, HJ, HV =>
   obtain rfl : j = 0 := by have := HJ.out; omega
   have HT := Aside0.mk (HV.out.2.2 rfl)
   go_wp2
   go_ret
   exact ⟨by rw [HT.out]; rfl, HB.out⟩
end
set_option maxHeartbeats 4000000 in
set_option maxRecDepth 100000 in
theorem netclass_simple.calls (k : Nat) (a0_0 : ByteArray) (A0_1 : Option Addr) (c0_1 : Nat) (l0_1 : List (S46)) (A0_2 : Option Addr) (c0_2 : Nat) (l0_2 : List (S41)) (r : Bool) (w : World) (hr0_1 : Kd.C k46 w A0_1 l0_1.length l0_1) (hc0_1 : l0_1.length ≤ c0_1) (hr0_2 : Kd.C k41 w A0_2 l0_2.length l0_2) (hc0_2 : l0_2.length ≤ c0_2) (h : netclass_simple.f k a0_0 l0_1 l0_2 = some r) :
  Calls Try.prog 44 #[.agg #[.string a0_0, .slice A0_1 l0_1.length c0_1, .slice A0_2 l0_2.length c0_2]] w fun e w' => e = .returned (.bool r) ∧ Below w.heap.size w w' := by
 have HR1 := Aside0.mk hr0_1
 have HC1 := Aside0.mk hc0_1
 have HR2 := Aside0.mk hr0_2
 have HC2 := Aside0.mk hc0_2
 have HV := Aside0.mk h
 clear hr0_1 hc0_1 hr0_2 hc0_2 h
 have hs1 : (w.alloc (.cells #[.string a0_0, .slice A0_1 l0_1.length c0_1, .slice A0_2 l0_2.length c0_2] 25)).heap.size = w.heap.size + 1 := by simp
 obtain ⟨w2, hw2⟩ : ∃ w2 : World, w2 = (w.alloc (.cells #[.string a0_0, .slice A0_1 l0_1.length c0_1, .slice A0_2 l0_2.length c0_2] 25)).alloc (.cells #[.func (.func 75) #[] #[.pointer (some ⟨w.heap.size, 0, none⟩)], .func (.func 76) #[] #[.pointer (some ⟨w.heap.size, 0, none⟩)]] 28) := ⟨_, rfl⟩
 have XA := Aside0.mk (show w2.heap[w.heap.size]? = some (.cells #[.string a0_0, .slice A0_1 l0_1.length c0_1, .slice A0_2 l0_2.length c0_2] 25 (0, 0)) by rw [hw2]; exact blk_below (alloc_new _ _) (below_alloc (Below.refl _ _) _))
 have XB := Aside0.mk (show w2.heap[w.heap.size + 1]? = some (.cells #[.func (.func 75) #[] #[.pointer (some ⟨w.heap.size, 0, none⟩)], .func (.func 76) #[] #[.pointer (some ⟨w.heap.size, 0, none⟩)]] 28 (0, 0)) by rw [hw2, ← hs1]; exact alloc_new _ _)
 have HB := Aside0.mk (show Below w.heap.size w w2 by rw [hw2]; exact below_alloc (below_alloc (Below.refl _ _) _) _)
 have HW := Aside0.mk hw2
 clear hs1 hw2
 go_enter Try.func44, Try.ntmps44
 go_wp2_with (first | (go_at_call 74; rw [← HW.out]; refine (simple_all k r XA.out XB.out (Kd.C_below HR1.out HB.out) HC1.out (Kd.C_below HR2.out HB.out) HC2.out HV.out).mono ?_; rintro e w3 ⟨rfl, hb⟩; have HB3 := Aside0.mk (HB.out.trans (hb.mono HB.out.size)); clear hb))
 go_ret
 exact ⟨rfl, HB3.out⟩

/-! ### netclass_StateMachine: function 18 -/
def netclass_StateMachine.l0 : Nat → List (S41) → Int → Int → Option (Bool)
 | 0, _, _, _ => none
 | k + 1, x9, x10, x11 => if x11 < x10 then (if 0 ≤ x11 then (if x11 < (x9.length : Int) then (if (((rd_T41 x9 x11).f1).length : Int) = 1 then (if (((rd_T41 x9 x11).f2).length : Int) = 1 then (netclass_StateMachine.l0 k x9 x10 (wrap64 (x11 + 1))) else (some false)) else (some false)) else (none)) else (none)) else (some true)
def netclass_StateMachine.f (k : Nat) (a0_0 : ByteArray) (l0_1 : List (S46)) (l0_2 : List (S41)) : Option (Bool) := (netclass_simple.f k a0_0 l0_1 l0_2).bind fun t233 => (if t233 = true then (netclass_StateMachine.l0 k l0_2 (l0_2.length : Int) 0) else (some false))
theorem netclass_StateMachine.mono_l : ∀ k, M3 netclass_StateMachine.l0 k
 | 0 => fun _ _ _ r h => by simp [netclass_StateMachine.l0] at h
 | k + 1 => by
  have ih0 := netclass_StateMachine.mono_l k
  ·intro y0 y1 y2
   unfold netclass_StateMachine.l0
   repeat' first | (with_reducible first | apply ih0 | apply netclass_simple.mono | apply lr | apply ln | apply li | refine lb ?_ fun _ => ?_)
theorem netclass_StateMachine.mono : ∀ a0 a1 a2 k, LeO (netclass_StateMachine.f k a0 a1 a2) (netclass_StateMachine.f (k + 1) a0 a1 a2) := by
 intro a0 a1 a2 k
 have ih0 := netclass_StateMachine.mono_l k
 unfold netclass_StateMachine.f
 repeat' first | (with_reducible first | apply ih0 | apply netclass_simple.mono | apply lr | apply ln | apply li | refine lb ?_ fun _ => ?_)
set_option maxHeartbeats 8000000 in
set_option maxRecDepth 100000 in
theorem netclass_StateMachine.calls (k : Nat) (a0_0 : ByteArray) (A0_1 : Option Addr) (c0_1 : Nat) (l0_1 : List (S46)) (A0_2 : Option Addr) (c0_2 : Nat) (l0_2 : List (S41)) (r : Bool) (w : World) (hr0_1 : Kd.C k46 w A0_1 l0_1.length l0_1) (hc0_1 : l0_1.length ≤ c0_1) (hr0_2 : Kd.C k41 w A0_2 l0_2.length l0_2) (hc0_2 : l0_2.length ≤ c0_2) (h : netclass_StateMachine.f k a0_0 l0_1 l0_2 = some r) :
  Calls Try.prog 18 #[.agg #[.string a0_0, .slice A0_1 l0_1.length c0_1, .slice A0_2 l0_2.length c0_2]] w fun e w' => e = .returned (.bool r) ∧ Below w.heap.size w w' := by
 have hu25 := Try.underlying25
 have hu41 := Try.underlying41
 have HR0_1 := am hr0_1
 have HC0_1 := am hc0_1
 clear hr0_1 hc0_1
 have HR0_2 := am hr0_2
 have HC0_2 := am hc0_2
 clear hr0_2 hc0_2
 have HB := am (Below.refl w.heap.size w)
 have H : ((netclass_simple.f k a0_0 l0_1 l0_2).bind fun t233 => (if t233 = true then (netclass_StateMachine.l0 k l0_2 (l0_2.length : Int) 0) else (some false))) = some r := h
 clear h
 replace H := bnd H
 obtain ⟨t233, A2, H⟩ := H
 (try dsimp only at H)
 by_cases c3 : t233 = true
 rotate_left
 ·replace c3 := Bool.eq_false_iff.mpr c3
  subst c3
  rw [if_neg Bool.false_ne_true] at H
  obtain rfl := Option.some.inj H
  go_enter Try.func18, Try.ntmps18
  go_wp2_with (first | ((with_reducible refine gate_dst (N := 1) rfl ?_); (try (refine gate_guard (by rfl) ?_; dsimp only)); refine box_ev (N := 1) (cs := #[.string a0_0, .slice A0_1 l0_1.length c0_1, .slice A0_2 l0_2.length c0_2]) (t := 25) ?_; intro gb232 hg w22 hbox hb; have BK232 := am hbox; have GW232 := gwl hg; have GE232 := GW232; replace HB := bsl hb; clear hb hbox hg; have z23 := cf3 BK232.1) | ((with_reducible refine gate_callee (f := 44) rfl ?_); refine gC 6 Try.func44 _ (netclass_simple.calls k a0_0 _ _ l0_1 _ _ l0_2 false _ (csb HR0_1 HB) HC0_1.1 (csb HR0_2 HB) HC0_2.1 A2.1) ?_; rintro e w24 ⟨rfl, hb⟩; refine ⟨_, rfl, ?_⟩; replace BK232 := bbh BK232 hb; replace HB := bst hb; (try clear hb)))
  go_ret
  exact ⟨per, pbg⟩
 subst c3
 rw [if_pos rfl] at H
 have H' := am H
 clear H
 go_enter Try.func18, Try.ntmps18
 go_wp2_with (first | ((with_reducible refine gate_dst (N := 1) rfl ?_); (try (refine gate_guard (by rfl) ?_; dsimp only)); refine box_ev (N := 1) (cs := #[.string a0_0, .slice A0_1 l0_1.length c0_1, .slice A0_2 l0_2.length c0_2]) (t := 25) ?_; intro gb232 hg w4 hbox hb; have BK232 := am hbox; have GW232 := gwl hg; have GE232 := GW232; replace HB := bsl hb; clear hb hbox hg; have z5 := cf3 BK232.1) | ((with_reducible refine gate_callee (f := 44) rfl ?_); refine gC 6 Try.func44 _ (netclass_simple.calls k a0_0 _ _ l0_1 _ _ l0_2 true _ (csb HR0_1 HB) HC0_1.1 (csb HR0_2 HB) HC0_2.1 A2.1) ?_; rintro e w6 ⟨rfl, hb⟩; refine ⟨_, rfl, ?_⟩; replace BK232 := bbh BK232 hb; replace HB := bst hb; (try clear hb); have z7 := cf3 BK232.1))
 go_loopg [11] k (fun kq v11 w' => ∃ (x11_1 : Int), v11 = .int .i64 x11_1 ∧ Aside0 (netclass_StateMachine.l0 kq l0_2 (l0_2.length : Int) x11_1 = some r) ∧ Aside0 (kq ≤ k) ∧ Aside0 (w'.heap[gb232]? = some (.cells #[.string a0_0, (.slice A0_1 l0_1.length c0_1), (.slice A0_2 l0_2.length c0_2)] 25 (0, 0))) ∧ Aside0 (Below w.heap.size w w'))
 case atStart => exact ⟨(0), prs, H', ⟨Nat.le_refl _⟩, ⟨pbk BK232.1⟩, ⟨pbg⟩⟩
 clear H'
 try clear c3 z5 z7
 obtain ⟨x11_1, rfl, HA, HK1, BK232, HB⟩ := hrel
 obtain _ | k1 := gk
 ·exact absurd HA.1 (by simp [netclass_StateMachine.l0])
 have H := HA.1
 clear HA
 simp only [netclass_StateMachine.l0] at H
 by_cases c8 : x11_1 < (l0_2.length : Int)
 rotate_left
 ·rw [if_neg c8] at H
  have c8b0 : decide (x11_1 < (l0_2.length : Int)) = false := decide_eq_false c8
  clear c8
  obtain rfl := Option.some.inj H
  go_wp2
  go_ret
  exact ⟨per, pbg⟩
 rw [if_pos c8] at H
 have c8b0 : decide (x11_1 < (l0_2.length : Int)) = true := decide_eq_true c8
 clear c8
 replace H := ifp H
 obtain ⟨c9, H⟩ := H
 have c9b0 := decide_eq_true c9
 clear c9
 replace H := ifp H
 obtain ⟨c10, H⟩ := H
 have c10b0 := decide_eq_true c10
 clear c10
 by_cases c11 : (((rd_T41 l0_2 x11_1).f1).length : Int) = 1
 rotate_left
 ·rw [if_neg c11] at H
  have c11b0 : ((((rd_T41 l0_2 x11_1).f1).length : Int) == 1) = false := beq_eq_false_iff_ne.mpr c11
  have c11b1 : ((((rd_T41 l0_2 x11_1).f1).length : Int) != 1) = true := bne_iff_ne.mpr c11
  obtain rfl := Option.some.inj H
  obtain ⟨p234, q234, ad234, A234_1, c234_1, A234_2, c234_2, A234_3, c234_3, e234, hx234_0, hx234_1, hx234_2, hx234_3, hx234_4, HC234_1, HR234_1, HC234_2, HR234_2, HC234_3, HR234_3⟩ := bT41 HR0_2.1 HB.1 x11_1
  cases e234
  go_wp2_with (first | ((with_reducible refine gate_dst (N := 4) rfl ?_); (try (refine gate_guard (by rfl) ?_; dsimp only)); refine box_ev (N := 4) (cs := #[.string (⟨#[]⟩ : ByteArray), .slice none 0 0, .slice none 0 0, .slice none 0 0, .int .i64 0]) (t := 41) ?_; intro gb235 hg w19 hbox hb; have BK235 := am hbox; have GW235 := gwb hg; have GE235 := GW235; have NB232_235 := nlt hg BK232; have NB235_232 := ngt hg BK232; replace BK232 := bbh BK232 hb; replace HB := bst hb; clear hb hbox hg; have hnb20 := NB235_232.1; have hnc20 := NB232_235.1; have z21 := cf5 BK235.1))
  go_ret
  exact ⟨per, pbg⟩
 rw [if_pos c11] at H
 have c11b0 : ((((rd_T41 l0_2 x11_1).f1).length : Int) == 1) = true := beq_iff_eq.mpr c11
 have c11b1 : ((((rd_T41 l0_2 x11_1).f1).length : Int) != 1) = false := bne_eq_false_iff_eq.mpr c11
 clear c11
 by_cases c12 : (((rd_T41 l0_2 x11_1).f2).length : Int) = 1
 rotate_left
 ·rw [if_neg c12] at H
  have c12b0 : ((((rd_T41 l0_2 x11_1).f2).length : Int) == 1) = false := beq_eq_false_iff_ne.mpr c12
  have c12b1 : ((((rd_T41 l0_2 x11_1).f2).length : Int) != 1) = true := bne_iff_ne.mpr c12
  obtain rfl := Option.some.inj H
  obtain ⟨p234, q234, ad234, A234_1, c234_1, A234_2, c234_2, A234_3, c234_3, e234, hx234_0, hx234_1, hx234_2, hx234_3, hx234_4, HC234_1, HR234_1, HC234_2, HR234_2, HC234_3, HR234_3⟩ := bT41 HR0_2.1 HB.1 x11_1
  cases e234
  go_wp2_with (first | ((with_reducible refine gate_dst (N := 4) rfl ?_); (try (refine gate_guard (by rfl) ?_; dsimp only)); refine box_ev (N := 4) (cs := #[.string (⟨#[]⟩ : ByteArray), .slice none 0 0, .slice none 0 0, .slice none 0 0, .int .i64 0]) (t := 41) ?_; intro gb235 hg w16 hbox hb; have BK235 := am hbox; have GW235 := gwb hg; have GE235 := GW235; have NB232_235 := nlt hg BK232; have NB235_232 := ngt hg BK232; replace BK232 := bbh BK232 hb; replace HB := bst hb; clear hb hbox hg; have hnb17 := NB235_232.1; have hnc17 := NB232_235.1; have z18 := cf5 BK235.1))
  go_ret
  exact ⟨per, pbg⟩
 rw [if_pos c12] at H
 have c12b0 : ((((rd_T41 l0_2 x11_1).f2).length : Int) == 1) = true := beq_iff_eq.mpr c12
 have c12b1 : ((((rd_T41 l0_2 x11_1).f2).length : Int) != 1) = false := bne_eq_false_iff_eq.mpr c12
 clear c12
 have H' := am H
 clear H
 obtain ⟨p234, q234, ad234, A234_1, c234_1, A234_2, c234_2, A234_3, c234_3, e234, hx234_0, hx234_1, hx234_2, hx234_3, hx234_4, HC234_1, HR234_1, HC234_2, HR234_2, HC234_3, HR234_3⟩ := bT41 HR0_2.1 HB.1 x11_1
 cases e234
 go_wp2_with (first | ((with_reducible refine gate_dst (N := 4) rfl ?_); (try (refine gate_guard (by rfl) ?_; dsimp only)); refine box_ev (N := 4) (cs := #[.string (⟨#[]⟩ : ByteArray), .slice none 0 0, .slice none 0 0, .slice none 0 0, .int .i64 0]) (t := 41) ?_; intro gb235 hg w13 hbox hb; have BK235 := am hbox; have GW235 := gwb hg; have GE235 := GW235; have NB232_235 := nlt hg BK232; have NB235_232 := ngt hg BK232; replace BK232 := bbh BK232 hb; replace HB := bst hb; clear hb hbox hg; have hnb14 := NB235_232.1; have hnc14 := NB232_235.1; have z15 := cf5 BK235.1))
 go_roundg k1
 case measure => have := HK1.1; omega
 case rel => exact ⟨(wrap64 (x11_1 + 1)), prs, H', ⟨by have := HK1.1; omega⟩, ⟨by (with_reducible repeat (first | refine blk_drewN ?_ _ | refine blk_drew ?_ | refine blk_alloc ?_ _)); refine bf5 ?_ NB232_235.1; exact pbk BK232.1⟩, ⟨pbg⟩⟩

/-! ### net_Producers: function 46 -/
-- IMPORTS Derived.RegionTactic,Derived.BigRegion,Derived.Laws.EntriesVeiled
theorem arcs_Producers (w : World) (s : ByteArray) (v1 v2 v3 : Value) (x : Int) : Calls Try.prog 78 #[.agg #[.string s, v1, v2, v3, .int .i64 x]] w fun e w' => e = .returned v2 ∧ Below w.heap.size w w' := by
 have hu := Try.underlying41
 obtain ⟨c0, c1, c2, c3, c4⟩ := trans_facts (alloc_new w (.cells #[.string s, v1, v2, v3, .int .i64 x] 41))
 go_enter Try.func78, Try.ntmps78
 go_wp2
 go_ret
 exact ⟨rfl, below_alloc (Below.refl _ _) _⟩
def net_Producers.l0 : Nat → List S41 → Int → List Int → Int → Option (List Int)
 | 0, _, _, _, _ => none
 | k + 1, l2, p, out, i => if i < (l2.length : Int) then (if 0 ≤ i then ((net_weight.f k (rd_T41 l2 i).f2 p).bind fun t => if t > 0 then (if out.length < 17592186044416 then net_Producers.l0 k l2 p (out ++ [i]) (wrap64 (i + 1)) else none) else net_Producers.l0 k l2 p out (wrap64 (i + 1))) else none) else some out
def net_Producers.f (k : Nat) (a0_0 : ByteArray) (l0_1 : List (S46)) (l0_2 : List (S41)) (a1 : Int) : Option (List Int) := (net_valid.f k a0_0 l0_1 l0_2).bind fun t => if t = true then net_Producers.l0 k l0_2 a1 [] 0 else some []
theorem net_Producers.mono_l : ∀ k y0 y1 y2 y3, LeO (net_Producers.l0 k y0 y1 y2 y3) (net_Producers.l0 (k + 1) y0 y1 y2 y3)
 | 0 => fun _ _ _ _ r h => by simp [net_Producers.l0] at h
 | k + 1 => by
  have ih0 := net_Producers.mono_l k
  intro y0 y1 y2 y3
  unfold net_Producers.l0
  repeat' first | exact ih0 _ _ _ _ | exact net_weight.mono _ _ _ | exact LeO.refl _ | exact LeO.none _ | refine LeO.ite ?_ ?_ | refine LeO.bind (net_weight.mono _ _ _) (fun _ => ?_)
theorem net_Producers.mono : ∀ a0 a1 a2 a3 k, LeO (net_Producers.f k a0 a1 a2 a3) (net_Producers.f (k + 1) a0 a1 a2 a3) := by
 intro a0 a1 a2 a3 k
 unfold net_Producers.f
 exact LeO.bind (net_valid.mono _ _ _ _) (fun _ => LeO.ite (net_Producers.mono_l k _ _ _ _) (LeO.refl _))
set_option maxHeartbeats 4000000 in
set_option maxRecDepth 100000 in
theorem users_Producers (k : Nat) (a0_0 : ByteArray) (A0_1 : Option Addr) (c0_1 : Nat) (l0_1 : List (S46)) (A0_2 : Option Addr) (c0_2 : Nat) (l0_2 : List (S41)) (a1 : Int) (r : List Int) (w : World) (hr0_1 : Kd.C k46 w A0_1 l0_1.length l0_1) (hc0_1 : l0_1.length ≤ c0_1) (hr0_2 : Kd.C k41 w A0_2 l0_2.length l0_2) (hc0_2 : l0_2.length ≤ c0_2) (h : net_Producers.f k a0_0 l0_1 l0_2 a1 = some r) :
  Calls Try.prog 77 #[.agg #[.string a0_0, .slice A0_1 l0_1.length c0_1, .slice A0_2 l0_2.length c0_2], .int .i64 a1, .func (.func 78) #[] #[]] w fun e w' => ∃ v0_ : Value, e = .returned (v0_) ∧ Kd.R (Kd.int .i64) 3 w' w.heap.size (fun _ => True) v0_ r ∧ Below w.heap.size w w' := by
 have hu1 := Try.underlying25
 have hu2 := Try.underlying41
 have HR1 := Aside0.mk hr0_1
 have HC1 := Aside0.mk hc0_1
 have HR2 := Aside0.mk hr0_2
 have HC2 := Aside0.mk hc0_2
 clear hr0_1 hc0_1 hr0_2 hc0_2
 unfold net_Producers.f at h
 obtain ⟨t, ht, h⟩ := Option.bind_eq_some_iff.mp h
 have HV := Aside0.mk ht
 have HX := Aside0.mk (alloc_new w (.cells #[.string a0_0, .slice A0_1 l0_1.length c0_1, .slice A0_2 l0_2.length c0_2] 25))
 have HB := Aside0.mk (show Below w.heap.size w (w.alloc (.cells #[.string a0_0, .slice A0_1 l0_1.length c0_1, .slice A0_2 l0_2.length c0_2] 25)) from below_alloc (Below.refl _ _) _)
 obtain ⟨cx0, cx1, cx2⟩ := net_facts HX.out
 clear ht
 cases t with
 | false =>
  rw [if_neg Bool.false_ne_true] at h
  obtain rfl := Option.some.inj h
  go_enter Try.func77, Try.ntmps77
  go_wp2_with (first | (go_at_call 81; refine (net_valid.calls k _ _ _ _ _ _ _ _ _ (Kd.C_below HR1.out HB.out) HC1.out (Kd.C_below HR2.out HB.out) HC2.out HV.out).mono ?_; rintro e w3 ⟨rfl, hb⟩; have HB3 := Aside0.mk (HB.out.trans (hb.mono HB.out.size)); clear hb))
  go_ret
  exact ⟨_, rfl, Kd.R_nil _ _ _ _ _, HB3.out⟩
 | true =>
  rw [if_pos rfl] at h
  have H := Aside0.mk h
  clear h
  go_enter Try.func77, Try.ntmps77
  go_wp2_with (first | (go_at_call 81; refine (net_valid.calls k _ _ _ _ _ _ _ _ _ (Kd.C_below HR1.out HB.out) HC1.out (Kd.C_below HR2.out HB.out) HC2.out HV.out).mono ?_; rintro e w3 ⟨rfl, hb⟩; have HB3 := Aside0.mk (HB.out.trans (hb.mono HB.out.size)); obtain ⟨dx0, dx1, dx2⟩ := net_facts (blk_below HX.out hb); clear hb))
  clear dx0 dx1 dx2 cx0 cx1 cx2 HX HB HV
  go_loopg [7, 16] k (fun kq v7 v16 w' => ∃ (i : Int) (out : List Int), v16 = .int .i64 i ∧ Aside0 (net_Producers.l0 kq l0_2 a1 out i = some r) ∧ Aside0 (kq ≤ k) ∧ Aside0 (Kd.R (Kd.int .i64) 3 w' w.heap.size (fun _ => True) v7 out) ∧ Aside0 (Below w.heap.size w w'))
  case atStart => exact ⟨0, [], rfl, H, ⟨Nat.le_refl _⟩, ⟨Kd.R_nil _ _ _ _ _⟩, HB3⟩
  case round =>
   clear H HB3
   obtain ⟨i, out, rfl, HA, HJ, HO, HB⟩ := hrel
   cases gk with
   | zero => exact absurd HA.out (by simp [net_Producers.l0])
   | succ k1 =>
   have H := HA.out
   clear HA
   simp only [net_Producers.l0] at H
   by_cases d1 : i < (l0_2.length : Int)
   case neg =>
    rw [if_neg d1] at H
    have d1b : decide (i < (l0_2.length : Int)) = false := decide_eq_false d1
    obtain rfl := Option.some.inj H
    clear d1
    go_wp2
    go_ret
    exact ⟨_, rfl, HO.out, HB.out⟩
   rw [if_pos d1] at H
   have d1b : decide (i < (l0_2.length : Int)) = true := decide_eq_true d1
   by_cases d2 : 0 ≤ i
   case neg => rw [if_neg d2] at H; cases H
   rw [if_pos d2] at H
   obtain ⟨t, ht, H⟩ := Option.bind_eq_some_iff.mp H
   have HT := Aside0.mk ht
   clear ht
   obtain ⟨ad, A1, c1, A2, c2, A3, c3, eA, y0, y1, y2, y3, y4, m1, g1, m2, g2, m3, g3⟩ := at_T41 HR2.out i d2 d1
   subst eA
   have u0 := pw_cell_below HB.out y0
   have u1 := pw_cell_below HB.out y1
   have u2 := pw_cell_below HB.out y2
   have u3 := pw_cell_below HB.out y3
   have u4 := pw_cell_below HB.out y4
   clear y0 y1 y2 y3 y4
   have M := Aside0.mk m2
   have G := Aside0.mk g2
   clear m1 m2 m3 g1 g2 g3
   have q1 : (0 ≤ i) = True := eq_true d2
   have q2 : (i < (l0_2.length : Int)) = True := eq_true d1
   have HPl := Aside0.mk (alloc_new wr (.cells #[.string (rd_T41 l0_2 i).f0, .slice A1 (rd_T41 l0_2 i).f1.length c1, .slice A2 (rd_T41 l0_2 i).f2.length c2, .slice A3 (rd_T41 l0_2 i).f3.length c3, .int .i64 (rd_T41 l0_2 i).f4] 41))
   have HB1 := Aside0.mk (show Below wr.heap.size wr (wr.alloc (.cells #[.string (rd_T41 l0_2 i).f0, .slice A1 (rd_T41 l0_2 i).f1.length c1, .slice A2 (rd_T41 l0_2 i).f2.length c2, .slice A3 (rd_T41 l0_2 i).f3.length c3, .int .i64 (rd_T41 l0_2 i).f4] 41)) from below_alloc (Below.refl _ _) _)
   obtain ⟨v0, v1, v2, v3, v4⟩ := trans_facts HPl.out
   have HM := Aside0.mk (show (l0_2.length : Int) ≤ 9223372036854775807 by have := HR2.out.2.1; omega)
   by_cases d3 : t > 0
   ·rw [if_pos d3] at H
    have d3b : decide (0 < t) = true := decide_eq_true d3
    by_cases d4 : out.length < 17592186044416
    case neg => rw [if_neg d4] at H; cases H
    rw [if_pos d4, show wrap64 (i + 1) = i + 1 by have := HM.out; unfold wrap64; omega] at H
    have H' := Aside0.mk H
    have D4 := Aside0.mk d4
    clear H d3 d4
    go_wp2_with (first
     | (go_at_call 78; refine (arcs_Producers _ _ _ _ _ _).mono ?_; rintro e w4 ⟨rfl, hb⟩; have HB4 := Aside0.mk (HB1.out.trans (hb.mono HB1.out.size)); clear hb)
     | (go_at_call 93; refine (net_weight.calls k1 _ _ _ _ _ _ (Kd.C_below G.out (HB.out.trans (HB4.out.mono HB.out.size))) M.out HT.out).mono ?_; rintro e w5 ⟨rfl, hb⟩; have HB5 := Aside0.mk (HB4.out.trans (hb.mono HB4.out.size)); have HO5 := Aside0.mk (Kd.R_below HO.out HB5.out); clear hb)
     | ((with_reducible refine gate_builtin (b := .append) (xs := #[.tmp 27, .tmp 29]) rfl ?_); at_builtin; refine Kd.R_append (Kd.int .i64) (w0 := w) w.heap.size rfl (.tmp 27) (.tmp 29) 37 3 (.int .i64 0) 8 rfl Try.underlying37 info3 rfl (by decide) (by omega) _ out i [.int .i64 i] (fun _ => True) (fun _ => False) rfl rfl ?aP (fun _ hk => hk.elim) ?aF ?aO ?aB ?aS ?aL ?_; (case aP => exact rfl); (case aF => exact (fun _ _ => trivial)); (case aO => exact HO5.out); (case aB => exact (HB.out.trans (HB5.out.mono HB.out.size))); (case aS => exact Nat.le_trans HB.out.size HB5.out.size); (case aL => have := D4.out; omega); intro v2 w2 ho hb hg hat; have HO6 := Aside0.mk ho; have HB6 := Aside0.mk hb; clear ho hb hg hat))
    go_roundg k1
    case measure => have := HJ.out; omega
    case rel => exact ⟨_, _, (by congr 1; have := HM.out; (first | omega | (unfold wrap64; omega) | (show wrap64 _ = _; unfold wrap64; omega))), H', ⟨by have := HJ.out; omega⟩, HO6, HB6⟩
   ·rw [if_neg d3, show wrap64 (i + 1) = i + 1 by have := HM.out; unfold wrap64; omega] at H
    have d3b : decide (0 < t) = false := decide_eq_false d3
    have H' := Aside0.mk H
    clear H d3
    go_wp2_with (first
     | (go_at_call 78; refine (arcs_Producers _ _ _ _ _ _).mono ?_; rintro e w4 ⟨rfl, hb⟩; have HB4 := Aside0.mk (HB1.out.trans (hb.mono HB1.out.size)); clear hb)
     | (go_at_call 93; refine (net_weight.calls k1 _ _ _ _ _ _ (Kd.C_below G.out (HB.out.trans (HB4.out.mono HB.out.size))) M.out HT.out).mono ?_; rintro e w5 ⟨rfl, hb⟩; have HB5 := Aside0.mk (HB4.out.trans (hb.mono HB4.out.size)); clear hb))
    go_roundg k1
    case measure => have := HJ.out; omega
    case rel => exact ⟨_, _, (by congr 1; have := HM.out; (first | omega | (unfold wrap64; omega) | (show wrap64 _ = _; unfold wrap64; omega))), H', ⟨by have := HJ.out; omega⟩, ⟨Kd.R_below HO.out HB5.out⟩, ⟨HB.out.trans (HB5.out.mono HB.out.size)⟩⟩
theorem net_Producers.calls (k : Nat) (a0_0 : ByteArray) (A0_1 : Option Addr) (c0_1 : Nat) (l0_1 : List (S46)) (A0_2 : Option Addr) (c0_2 : Nat) (l0_2 : List (S41)) (a1 : Int) (r : List Int) (w : World) (hr0_1 : Kd.C k46 w A0_1 l0_1.length l0_1) (hc0_1 : l0_1.length ≤ c0_1) (hr0_2 : Kd.C k41 w A0_2 l0_2.length l0_2) (hc0_2 : l0_2.length ≤ c0_2) (h : net_Producers.f k a0_0 l0_1 l0_2 a1 = some r) :
  Calls Try.prog 46 #[.agg #[.string a0_0, .slice A0_1 l0_1.length c0_1, .slice A0_2 l0_2.length c0_2], .int .i64 a1] w fun e w' => ∃ v0_ : Value, e = .returned (v0_) ∧ Kd.R (Kd.int .i64) 3 w' w.heap.size (fun _ => True) v0_ r ∧ Below w.heap.size w w' := by
 have hu1 := Try.underlying25
 have HB := Aside0.mk (show Below w.heap.size w (w.alloc (.cells #[.string a0_0, .slice A0_1 l0_1.length c0_1, .slice A0_2 l0_2.length c0_2] 25)) from below_alloc (Below.refl _ _) _)
 have HR1 := Aside0.mk (Kd.C_below hr0_1 HB.out)
 have HC1 := Aside0.mk hc0_1
 have HR2 := Aside0.mk (Kd.C_below hr0_2 HB.out)
 have HC2 := Aside0.mk hc0_2
 have H := Aside0.mk h
 obtain ⟨cx0, cx1, cx2⟩ := net_facts (alloc_new w (.cells #[.string a0_0, .slice A0_1 l0_1.length c0_1, .slice A0_2 l0_2.length c0_2] 25))
 clear hr0_1 hc0_1 hr0_2 hc0_2 h
 go_enter Try.func46, Try.ntmps46
 go_wp2_with (first | (go_at_call 77; refine (users_Producers k _ _ _ _ _ _ _ _ _ _ HR1.out HC1.out HR2.out HC2.out H.out).mono ?_; rintro e w3 ⟨v3, rfl, ho, hb⟩; have HO := Aside0.mk (Kd.R_lower ho HB.out.size); have HB3 := Aside0.mk (HB.out.trans (hb.mono HB.out.size)); clear ho hb))
 go_ret
 exact ⟨_, rfl, HO.out, HB3.out⟩

/-! ### net_Consumers: function 47 -/
-- IMPORTS Derived.RegionTactic,Derived.BigRegion,Derived.Laws.EntriesVeiled
theorem arcs_Consumers (w : World) (s : ByteArray) (v1 v2 v3 : Value) (x : Int) : Calls Try.prog 79 #[.agg #[.string s, v1, v2, v3, .int .i64 x]] w fun e w' => e = .returned v1 ∧ Below w.heap.size w w' := by
 have hu := Try.underlying41
 obtain ⟨c0, c1, c2, c3, c4⟩ := trans_facts (alloc_new w (.cells #[.string s, v1, v2, v3, .int .i64 x] 41))
 go_enter Try.func79, Try.ntmps79
 go_wp2
 go_ret
 exact ⟨rfl, below_alloc (Below.refl _ _) _⟩
def net_Consumers.l0 : Nat → List S41 → Int → List Int → Int → Option (List Int)
 | 0, _, _, _, _ => none
 | k + 1, l2, p, out, i => if i < (l2.length : Int) then (if 0 ≤ i then ((net_weight.f k (rd_T41 l2 i).f1 p).bind fun t => if t > 0 then (if out.length < 17592186044416 then net_Consumers.l0 k l2 p (out ++ [i]) (wrap64 (i + 1)) else none) else net_Consumers.l0 k l2 p out (wrap64 (i + 1))) else none) else some out
def net_Consumers.f (k : Nat) (a0_0 : ByteArray) (l0_1 : List (S46)) (l0_2 : List (S41)) (a1 : Int) : Option (List Int) := (net_valid.f k a0_0 l0_1 l0_2).bind fun t => if t = true then net_Consumers.l0 k l0_2 a1 [] 0 else some []
theorem net_Consumers.mono_l : ∀ k y0 y1 y2 y3, LeO (net_Consumers.l0 k y0 y1 y2 y3) (net_Consumers.l0 (k + 1) y0 y1 y2 y3)
 | 0 => fun _ _ _ _ r h => by simp [net_Consumers.l0] at h
 | k + 1 => by
  have ih0 := net_Consumers.mono_l k
  intro y0 y1 y2 y3
  unfold net_Consumers.l0
  repeat' first | exact ih0 _ _ _ _ | exact net_weight.mono _ _ _ | exact LeO.refl _ | exact LeO.none _ | refine LeO.ite ?_ ?_ | refine LeO.bind (net_weight.mono _ _ _) (fun _ => ?_)
theorem net_Consumers.mono : ∀ a0 a1 a2 a3 k, LeO (net_Consumers.f k a0 a1 a2 a3) (net_Consumers.f (k + 1) a0 a1 a2 a3) := by
 intro a0 a1 a2 a3 k
 unfold net_Consumers.f
 exact LeO.bind (net_valid.mono _ _ _ _) (fun _ => LeO.ite (net_Consumers.mono_l k _ _ _ _) (LeO.refl _))
set_option maxHeartbeats 4000000 in
set_option maxRecDepth 100000 in
theorem users_Consumers (k : Nat) (a0_0 : ByteArray) (A0_1 : Option Addr) (c0_1 : Nat) (l0_1 : List (S46)) (A0_2 : Option Addr) (c0_2 : Nat) (l0_2 : List (S41)) (a1 : Int) (r : List Int) (w : World) (hr0_1 : Kd.C k46 w A0_1 l0_1.length l0_1) (hc0_1 : l0_1.length ≤ c0_1) (hr0_2 : Kd.C k41 w A0_2 l0_2.length l0_2) (hc0_2 : l0_2.length ≤ c0_2) (h : net_Consumers.f k a0_0 l0_1 l0_2 a1 = some r) :
  Calls Try.prog 77 #[.agg #[.string a0_0, .slice A0_1 l0_1.length c0_1, .slice A0_2 l0_2.length c0_2], .int .i64 a1, .func (.func 79) #[] #[]] w fun e w' => ∃ v0_ : Value, e = .returned (v0_) ∧ Kd.R (Kd.int .i64) 3 w' w.heap.size (fun _ => True) v0_ r ∧ Below w.heap.size w w' := by
 have hu1 := Try.underlying25
 have hu2 := Try.underlying41
 have HR1 := Aside0.mk hr0_1
 have HC1 := Aside0.mk hc0_1
 have HR2 := Aside0.mk hr0_2
 have HC2 := Aside0.mk hc0_2
 clear hr0_1 hc0_1 hr0_2 hc0_2
 unfold net_Consumers.f at h
 obtain ⟨t, ht, h⟩ := Option.bind_eq_some_iff.mp h
 have HV := Aside0.mk ht
 have HX := Aside0.mk (alloc_new w (.cells #[.string a0_0, .slice A0_1 l0_1.length c0_1, .slice A0_2 l0_2.length c0_2] 25))
 have HB := Aside0.mk (show Below w.heap.size w (w.alloc (.cells #[.string a0_0, .slice A0_1 l0_1.length c0_1, .slice A0_2 l0_2.length c0_2] 25)) from below_alloc (Below.refl _ _) _)
 obtain ⟨cx0, cx1, cx2⟩ := net_facts HX.out
 clear ht
 cases t with
 | false =>
  rw [if_neg Bool.false_ne_true] at h
  obtain rfl := Option.some.inj h
  go_enter Try.func77, Try.ntmps77
  go_wp2_with (first | (go_at_call 81; refine (net_valid.calls k _ _ _ _ _ _ _ _ _ (Kd.C_below HR1.out HB.out) HC1.out (Kd.C_below HR2.out HB.out) HC2.out HV.out).mono ?_; rintro e w3 ⟨rfl, hb⟩; have HB3 := Aside0.mk (HB.out.trans (hb.mono HB.out.size)); clear hb))
  go_ret
  exact ⟨_, rfl, Kd.R_nil _ _ _ _ _, HB3.out⟩
 | true =>
  rw [if_pos rfl] at h
  have H := Aside0.mk h
  clear h
  go_enter Try.func77, Try.ntmps77
  go_wp2_with (first | (go_at_call 81; refine (net_valid.calls k _ _ _ _ _ _ _ _ _ (Kd.C_below HR1.out HB.out) HC1.out (Kd.C_below HR2.out HB.out) HC2.out HV.out).mono ?_; rintro e w3 ⟨rfl, hb⟩; have HB3 := Aside0.mk (HB.out.trans (hb.mono HB.out.size)); obtain ⟨dx0, dx1, dx2⟩ := net_facts (blk_below HX.out hb); clear hb))
  clear dx0 dx1 dx2 cx0 cx1 cx2 HX HB HV
  go_loopg [7, 16] k (fun kq v7 v16 w' => ∃ (i : Int) (out : List Int), v16 = .int .i64 i ∧ Aside0 (net_Consumers.l0 kq l0_2 a1 out i = some r) ∧ Aside0 (kq ≤ k) ∧ Aside0 (Kd.R (Kd.int .i64) 3 w' w.heap.size (fun _ => True) v7 out) ∧ Aside0 (Below w.heap.size w w'))
  case atStart => exact ⟨0, [], rfl, H, ⟨Nat.le_refl _⟩, ⟨Kd.R_nil _ _ _ _ _⟩, HB3⟩
  case round =>
   clear H HB3
   obtain ⟨i, out, rfl, HA, HJ, HO, HB⟩ := hrel
   cases gk with
   | zero => exact absurd HA.out (by simp [net_Consumers.l0])
   | succ k1 =>
   have H := HA.out
   clear HA
   simp only [net_Consumers.l0] at H
   by_cases d1 : i < (l0_2.length : Int)
   case neg =>
    rw [if_neg d1] at H
    have d1b : decide (i < (l0_2.length : Int)) = false := decide_eq_false d1
    obtain rfl := Option.some.inj H
    clear d1
    go_wp2
    go_ret
    exact ⟨_, rfl, HO.out, HB.out⟩
   rw [if_pos d1] at H
   have d1b : decide (i < (l0_2.length : Int)) = true := decide_eq_true d1
   by_cases d2 : 0 ≤ i
   case neg => rw [if_neg d2] at H; cases H
   rw [if_pos d2] at H
   obtain ⟨t, ht, H⟩ := Option.bind_eq_some_iff.mp H
   have HT := Aside0.mk ht
   clear ht
   obtain ⟨ad, A1, c1, A2, c2, A3, c3, eA, y0, y1, y2, y3, y4, m1, g1, m2, g2, m3, g3⟩ := at_T41 HR2.out i d2 d1
   subst eA
   have u0 := pw_cell_below HB.out y0
   have u1 := pw_cell_below HB.out y1
   have u2 := pw_cell_below HB.out y2
   have u3 := pw_cell_below HB.out y3
   have u4 := pw_cell_below HB.out y4
   clear y0 y1 y2 y3 y4
   have M := Aside0.mk m1
   have G := Aside0.mk g1
   clear m1 m2 m3 g1 g2 g3
   have q1 : (0 ≤ i) = True := eq_true d2
   have q2 : (i < (l0_2.length : Int)) = True := eq_true d1
   have HPl := Aside0.mk (alloc_new wr (.cells #[.string (rd_T41 l0_2 i).f0, .slice A1 (rd_T41 l0_2 i).f1.length c1, .slice A2 (rd_T41 l0_2 i).f2.length c2, .slice A3 (rd_T41 l0_2 i).f3.length c3, .int .i64 (rd_T41 l0_2 i).f4] 41))
   have HB1 := Aside0.mk (show Below wr.heap.size wr (wr.alloc (.cells #[.string (rd_T41 l0_2 i).f0, .slice A1 (rd_T41 l0_2 i).f1.length c1, .slice A2 (rd_T41 l0_2 i).f2.length c2, .slice A3 (rd_T41 l0_2 i).f3.length c3, .int .i64 (rd_T41 l0_2 i).f4] 41)) from below_alloc (Below.refl _ _) _)
   obtain ⟨v0, v1, v2, v3, v4⟩ := trans_facts HPl.out
   have HM := Aside0.mk (show (l0_2.length : Int) ≤ 9223372036854775807 by have := HR2.out.2.1; omega)
   by_cases d3 : t > 0
   ·rw [if_pos d3] at H
    have d3b : decide (0 < t) = true := decide_eq_true d3
    by_cases d4 : out.length < 17592186044416
    case neg => rw [if_neg d4] at H; cases H
    rw [if_pos d4, show wrap64 (i + 1) = i + 1 by have := HM.out; unfold wrap64; omega] at H
    have H' := Aside0.mk H
    have D4 := Aside0.mk d4
    clear H d3 d4
    go_wp2_with (first
     | (go_at_call 79; refine (arcs_Consumers _ _ _ _ _ _).mono ?_; rintro e w4 ⟨rfl, hb⟩; have HB4 := Aside0.mk (HB1.out.trans (hb.mono HB1.out.size)); clear hb)
     | (go_at_call 93; refine (net_weight.calls k1 _ _ _ _ _ _ (Kd.C_below G.out (HB.out.trans (HB4.out.mono HB.out.size))) M.out HT.out).mono ?_; rintro e w5 ⟨rfl, hb⟩; have HB5 := Aside0.mk (HB4.out.trans (hb.mono HB4.out.size)); have HO5 := Aside0.mk (Kd.R_below HO.out HB5.out); clear hb)
     | ((with_reducible refine gate_builtin (b := .append) (xs := #[.tmp 27, .tmp 29]) rfl ?_); at_builtin; refine Kd.R_append (Kd.int .i64) (w0 := w) w.heap.size rfl (.tmp 27) (.tmp 29) 37 3 (.int .i64 0) 8 rfl Try.underlying37 info3 rfl (by decide) (by omega) _ out i [.int .i64 i] (fun _ => True) (fun _ => False) rfl rfl ?aP (fun _ hk => hk.elim) ?aF ?aO ?aB ?aS ?aL ?_; (case aP => exact rfl); (case aF => exact (fun _ _ => trivial)); (case aO => exact HO5.out); (case aB => exact (HB.out.trans (HB5.out.mono HB.out.size))); (case aS => exact Nat.le_trans HB.out.size HB5.out.size); (case aL => have := D4.out; omega); intro v2 w2 ho hb hg hat; have HO6 := Aside0.mk ho; have HB6 := Aside0.mk hb; clear ho hb hg hat))
    go_roundg k1
    case measure => have := HJ.out; omega
    case rel => exact ⟨_, _, (by congr 1; have := HM.out; (first | omega | (unfold wrap64; omega) | (show wrap64 _ = _; unfold wrap64; omega))), H', ⟨by have := HJ.out; omega⟩, HO6, HB6⟩
   ·rw [if_neg d3, show wrap64 (i + 1) = i + 1 by have := HM.out; unfold wrap64; omega] at H
    have d3b : decide (0 < t) = false := decide_eq_false d3
    have H' := Aside0.mk H
    clear H d3
    go_wp2_with (first
     | (go_at_call 79; refine (arcs_Consumers _ _ _ _ _ _).mono ?_; rintro e w4 ⟨rfl, hb⟩; have HB4 := Aside0.mk (HB1.out.trans (hb.mono HB1.out.size)); clear hb)
     | (go_at_call 93; refine (net_weight.calls k1 _ _ _ _ _ _ (Kd.C_below G.out (HB.out.trans (HB4.out.mono HB.out.size))) M.out HT.out).mono ?_; rintro e w5 ⟨rfl, hb⟩; have HB5 := Aside0.mk (HB4.out.trans (hb.mono HB4.out.size)); clear hb))
    go_roundg k1
    case measure => have := HJ.out; omega
    case rel => exact ⟨_, _, (by congr 1; have := HM.out; (first | omega | (unfold wrap64; omega) | (show wrap64 _ = _; unfold wrap64; omega))), H', ⟨by have := HJ.out; omega⟩, ⟨Kd.R_below HO.out HB5.out⟩, ⟨HB.out.trans (HB5.out.mono HB.out.size)⟩⟩
theorem net_Consumers.calls (k : Nat) (a0_0 : ByteArray) (A0_1 : Option Addr) (c0_1 : Nat) (l0_1 : List (S46)) (A0_2 : Option Addr) (c0_2 : Nat) (l0_2 : List (S41)) (a1 : Int) (r : List Int) (w : World) (hr0_1 : Kd.C k46 w A0_1 l0_1.length l0_1) (hc0_1 : l0_1.length ≤ c0_1) (hr0_2 : Kd.C k41 w A0_2 l0_2.length l0_2) (hc0_2 : l0_2.length ≤ c0_2) (h : net_Consumers.f k a0_0 l0_1 l0_2 a1 = some r) :
  Calls Try.prog 47 #[.agg #[.string a0_0, .slice A0_1 l0_1.length c0_1, .slice A0_2 l0_2.length c0_2], .int .i64 a1] w fun e w' => ∃ v0_ : Value, e = .returned (v0_) ∧ Kd.R (Kd.int .i64) 3 w' w.heap.size (fun _ => True) v0_ r ∧ Below w.heap.size w w' := by
 have hu1 := Try.underlying25
 have HB := Aside0.mk (show Below w.heap.size w (w.alloc (.cells #[.string a0_0, .slice A0_1 l0_1.length c0_1, .slice A0_2 l0_2.length c0_2] 25)) from below_alloc (Below.refl _ _) _)
 have HR1 := Aside0.mk (Kd.C_below hr0_1 HB.out)
 have HC1 := Aside0.mk hc0_1
 have HR2 := Aside0.mk (Kd.C_below hr0_2 HB.out)
 have HC2 := Aside0.mk hc0_2
 have H := Aside0.mk h
 obtain ⟨cx0, cx1, cx2⟩ := net_facts (alloc_new w (.cells #[.string a0_0, .slice A0_1 l0_1.length c0_1, .slice A0_2 l0_2.length c0_2] 25))
 clear hr0_1 hc0_1 hr0_2 hc0_2 h
 go_enter Try.func47, Try.ntmps47
 go_wp2_with (first | (go_at_call 77; refine (users_Consumers k _ _ _ _ _ _ _ _ _ _ HR1.out HC1.out HR2.out HC2.out H.out).mono ?_; rintro e w3 ⟨v3, rfl, ho, hb⟩; have HO := Aside0.mk (Kd.R_lower ho HB.out.size); have HB3 := Aside0.mk (HB.out.trans (hb.mono HB.out.size)); clear ho hb))
 go_ret
 exact ⟨_, rfl, HO.out, HB3.out⟩

/-! ### netclass_MarkedGraph: function 20 -/
def netclass_MarkedGraph.l0 : Nat → Int → Int → ByteArray → List (S46) → List (S41) → Option (Bool)
 | 0, _, _, _, _, _ => none
 | k + 1, x9, x10, x239000, x239001, x239002 => if x10 < x9 then ((net_Producers.f k x239000 x239001 x239002 x10).bind fun t240 => (if (t240.length : Int) = 1 then ((net_Consumers.f k x239000 x239001 x239002 x10).bind fun t243 => (if (t243.length : Int) = 1 then (netclass_MarkedGraph.l0 k x9 (wrap64 (x10 + 1)) x239000 x239001 x239002) else (some false))) else (some false))) else (some true)
def netclass_MarkedGraph.f (k : Nat) (a0_0 : ByteArray) (l0_1 : List (S46)) (l0_2 : List (S41)) : Option (Bool) := (netclass_simple.f k a0_0 l0_1 l0_2).bind fun t239 => (if t239 = true then (netclass_MarkedGraph.l0 k (l0_1.length : Int) 0 a0_0 l0_1 l0_2) else (some false))
theorem netclass_MarkedGraph.mono_l : ∀ k, M5 netclass_MarkedGraph.l0 k
 | 0 => fun _ _ _ _ _ r h => by simp [netclass_MarkedGraph.l0] at h
 | k + 1 => by
  have ih0 := netclass_MarkedGraph.mono_l k
  ·intro y0 y1 y2 y3 y4
   unfold netclass_MarkedGraph.l0
   repeat' first | (with_reducible first | apply ih0 | apply net_Consumers.mono | apply net_Producers.mono | apply netclass_simple.mono | apply lr | apply ln | apply li | refine lb ?_ fun _ => ?_)
theorem netclass_MarkedGraph.mono : ∀ a0 a1 a2 k, LeO (netclass_MarkedGraph.f k a0 a1 a2) (netclass_MarkedGraph.f (k + 1) a0 a1 a2) := by
 intro a0 a1 a2 k
 have ih0 := netclass_MarkedGraph.mono_l k
 unfold netclass_MarkedGraph.f
 repeat' first | (with_reducible first | apply ih0 | apply net_Consumers.mono | apply net_Producers.mono | apply netclass_simple.mono | apply lr | apply ln | apply li | refine lb ?_ fun _ => ?_)
set_option maxHeartbeats 8000000 in
set_option maxRecDepth 100000 in
theorem netclass_MarkedGraph.calls (k : Nat) (a0_0 : ByteArray) (A0_1 : Option Addr) (c0_1 : Nat) (l0_1 : List (S46)) (A0_2 : Option Addr) (c0_2 : Nat) (l0_2 : List (S41)) (r : Bool) (w : World) (hr0_1 : Kd.C k46 w A0_1 l0_1.length l0_1) (hc0_1 : l0_1.length ≤ c0_1) (hr0_2 : Kd.C k41 w A0_2 l0_2.length l0_2) (hc0_2 : l0_2.length ≤ c0_2) (h : netclass_MarkedGraph.f k a0_0 l0_1 l0_2 = some r) :
  Calls Try.prog 20 #[.agg #[.string a0_0, .slice A0_1 l0_1.length c0_1, .slice A0_2 l0_2.length c0_2]] w fun e w' => e = .returned (.bool r) ∧ Below w.heap.size w w' := by
 have hu25 := Try.underlying25
 have HR0_1 := am hr0_1
 have HC0_1 := am hc0_1
 clear hr0_1 hc0_1
 have HR0_2 := am hr0_2
 have HC0_2 := am hc0_2
 clear hr0_2 hc0_2
 have HB := am (Below.refl w.heap.size w)
 have H : ((netclass_simple.f k a0_0 l0_1 l0_2).bind fun t239 => (if t239 = true then (netclass_MarkedGraph.l0 k (l0_1.length : Int) 0 a0_0 l0_1 l0_2) else (some false))) = some r := h
 clear h
 replace H := bnd H
 obtain ⟨t239, A2, H⟩ := H
 (try dsimp only at H)
 by_cases c3 : t239 = true
 rotate_left
 ·replace c3 := Bool.eq_false_iff.mpr c3
  subst c3
  rw [if_neg Bool.false_ne_true] at H
  obtain rfl := Option.some.inj H
  go_enter Try.func20, Try.ntmps20
  go_wp2_with (first | ((with_reducible refine gate_dst (N := 1) rfl ?_); (try (refine gate_guard (by rfl) ?_; dsimp only)); refine box_ev (N := 1) (cs := #[.string a0_0, .slice A0_1 l0_1.length c0_1, .slice A0_2 l0_2.length c0_2]) (t := 25) ?_; intro gb238 hg w28 hbox hb; have BK238 := am hbox; have GW238 := gwl hg; have GE238 := GW238; replace HB := bsl hb; clear hb hbox hg; have z29 := cf3 BK238.1) | ((with_reducible refine gate_callee (f := 44) rfl ?_); refine gC 5 Try.func44 _ (netclass_simple.calls k a0_0 _ _ l0_1 _ _ l0_2 false _ (csb HR0_1 HB) HC0_1.1 (csb HR0_2 HB) HC0_2.1 A2.1) ?_; rintro e w30 ⟨rfl, hb⟩; refine ⟨_, rfl, ?_⟩; replace BK238 := bbh BK238 hb; replace HB := bst hb; (try clear hb)))
  go_ret
  exact ⟨per, pbg⟩
 subst c3
 rw [if_pos rfl] at H
 have H' := am H
 clear H
 go_enter Try.func20, Try.ntmps20
 go_wp2_with (first | ((with_reducible refine gate_dst (N := 1) rfl ?_); (try (refine gate_guard (by rfl) ?_; dsimp only)); refine box_ev (N := 1) (cs := #[.string a0_0, .slice A0_1 l0_1.length c0_1, .slice A0_2 l0_2.length c0_2]) (t := 25) ?_; intro gb238 hg w4 hbox hb; have BK238 := am hbox; have GW238 := gwl hg; have GE238 := GW238; replace HB := bsl hb; clear hb hbox hg; have z5 := cf3 BK238.1) | ((with_reducible refine gate_callee (f := 44) rfl ?_); refine gC 5 Try.func44 _ (netclass_simple.calls k a0_0 _ _ l0_1 _ _ l0_2 true _ (csb HR0_1 HB) HC0_1.1 (csb HR0_2 HB) HC0_2.1 A2.1) ?_; rintro e w6 ⟨rfl, hb⟩; refine ⟨_, rfl, ?_⟩; replace BK238 := bbh BK238 hb; replace HB := bst hb; (try clear hb); have z7 := cf3 BK238.1))
 go_loopg [10] k (fun kq v10 w' => ∃ (x10_1 : Int), v10 = .int .i64 x10_1 ∧ Aside0 (netclass_MarkedGraph.l0 kq (l0_1.length : Int) x10_1 a0_0 l0_1 l0_2 = some r) ∧ Aside0 (kq ≤ k) ∧ Aside0 (w'.heap[gb238]? = some (.cells #[.string a0_0, (.slice A0_1 l0_1.length c0_1), (.slice A0_2 l0_2.length c0_2)] 25 (0, 0))) ∧ Aside0 (Below w.heap.size w w'))
 case atStart => exact ⟨(0), prs, H', ⟨Nat.le_refl _⟩, ⟨pbk BK238.1⟩, ⟨pbg⟩⟩
 clear H'
 try clear c3 z5 z7
 obtain ⟨x10_1, rfl, HA, HK1, BK238, HB⟩ := hrel
 obtain _ | k1 := gk
 ·exact absurd HA.1 (by simp [netclass_MarkedGraph.l0])
 have H := HA.1
 clear HA
 simp only [netclass_MarkedGraph.l0] at H
 by_cases c8 : x10_1 < (l0_1.length : Int)
 rotate_left
 ·rw [if_neg c8] at H
  have c8b0 : decide (x10_1 < (l0_1.length : Int)) = false := decide_eq_false c8
  clear c8
  obtain rfl := Option.some.inj H
  go_wp2
  go_ret
  exact ⟨per, pbg⟩
 rw [if_pos c8] at H
 have c8b0 : decide (x10_1 < (l0_1.length : Int)) = true := decide_eq_true c8
 clear c8
 replace H := bnd H
 obtain ⟨t240, A9, H⟩ := H
 (try dsimp only at H)
 by_cases c10 : (t240.length : Int) = 1
 rotate_left
 ·rw [if_neg c10] at H
  have c10b0 : ((t240.length : Int) == 1) = false := beq_eq_false_iff_ne.mpr c10
  have c10b1 : ((t240.length : Int) != 1) = true := bne_iff_ne.mpr c10
  obtain rfl := Option.some.inj H
  have z25 := cf3 BK238.1
  go_wp2_with (first | ((with_reducible refine gate_callee (f := 46) rfl ?_); refine gC 15 Try.func46 _ (net_Producers.calls k1 a0_0 _ _ l0_1 _ _ l0_2 x10_1 t240 _ (csb HR0_1 HB) HC0_1.1 (csb HR0_2 HB) HC0_2.1 A9.1) ?_; rintro e w26 ⟨v241, rfl, ho0, hb⟩; refine ⟨_, rfl, ?_⟩; have HO242 := am (Kd.R_lower ho0 (below_size pbg)); replace BK238 := bbh BK238 hb; replace HB := bst hb; (try clear hb); (try clear ho0); obtain ⟨Ao27, co27, eo27⟩ := Kd.R_slice HO242.1; subst eo27))
  go_ret
  exact ⟨per, pbg⟩
 rw [if_pos c10] at H
 have c10b0 : ((t240.length : Int) == 1) = true := beq_iff_eq.mpr c10
 have c10b1 : ((t240.length : Int) != 1) = false := bne_eq_false_iff_eq.mpr c10
 clear c10
 replace H := bnd H
 obtain ⟨t243, A11, H⟩ := H
 (try dsimp only at H)
 by_cases c12 : (t243.length : Int) = 1
 rotate_left
 ·rw [if_neg c12] at H
  have c12b0 : ((t243.length : Int) == 1) = false := beq_eq_false_iff_ne.mpr c12
  have c12b1 : ((t243.length : Int) != 1) = true := bne_iff_ne.mpr c12
  obtain rfl := Option.some.inj H
  have z19 := cf3 BK238.1
  go_wp2_with (first | ((with_reducible refine gate_callee (f := 46) rfl ?_); refine gC 15 Try.func46 _ (net_Producers.calls k1 a0_0 _ _ l0_1 _ _ l0_2 x10_1 t240 _ (csb HR0_1 HB) HC0_1.1 (csb HR0_2 HB) HC0_2.1 A9.1) ?_; rintro e w20 ⟨v241, rfl, ho0, hb⟩; refine ⟨_, rfl, ?_⟩; have HO242 := am (Kd.R_lower ho0 (below_size pbg)); replace BK238 := bbh BK238 hb; replace HB := bst hb; (try clear hb); (try clear ho0); obtain ⟨Ao21, co21, eo21⟩ := Kd.R_slice HO242.1; subst eo21; have z22 := cf3 BK238.1) | (go_at_call 47; (with_reducible refine (net_Consumers.calls k1 a0_0 _ _ l0_1 _ _ l0_2 x10_1 t243 _ ?side1 ?side2 ?side3 ?side4 A11.1).mono ?_); (case side1 => exact csb HR0_1 HB); (case side2 => exact HC0_1.1); (case side3 => exact csb HR0_2 HB); (case side4 => exact HC0_2.1); rintro e w23 ⟨v244, rfl, ho0, hb⟩; have HO245 := am (Kd.R_lower (Kd.R_new' ho0 (Kd.R_lt (pkr HO242.1))) (below_size pbg)); replace HO242 := am (Kd.R_elder' (pkr HO242.1) (Kd.R_base ho0) hb); replace BK238 := bbh BK238 hb; replace HB := bst hb; (try clear hb); (try clear ho0); obtain ⟨Ao24, co24, eo24⟩ := Kd.R_slice HO245.1; subst eo24))
  go_ret
  exact ⟨per, pbg⟩
 rw [if_pos c12] at H
 have c12b0 : ((t243.length : Int) == 1) = true := beq_iff_eq.mpr c12
 have c12b1 : ((t243.length : Int) != 1) = false := bne_eq_false_iff_eq.mpr c12
 clear c12
 have H' := am H
 clear H
 have z13 := cf3 BK238.1
 go_wp2_with (first | ((with_reducible refine gate_callee (f := 46) rfl ?_); refine gC 15 Try.func46 _ (net_Producers.calls k1 a0_0 _ _ l0_1 _ _ l0_2 x10_1 t240 _ (csb HR0_1 HB) HC0_1.1 (csb HR0_2 HB) HC0_2.1 A9.1) ?_; rintro e w14 ⟨v241, rfl, ho0, hb⟩; refine ⟨_, rfl, ?_⟩; have HO242 := am (Kd.R_lower ho0 (below_size pbg)); replace BK238 := bbh BK238 hb; replace HB := bst hb; (try clear hb); (try clear ho0); obtain ⟨Ao15, co15, eo15⟩ := Kd.R_slice HO242.1; subst eo15; have z16 := cf3 BK238.1) | (go_at_call 47; (with_reducible refine (net_Consumers.calls k1 a0_0 _ _ l0_1 _ _ l0_2 x10_1 t243 _ ?side1 ?side2 ?side3 ?side4 A11.1).mono ?_); (case side1 => exact csb HR0_1 HB); (case side2 => exact HC0_1.1); (case side3 => exact csb HR0_2 HB); (case side4 => exact HC0_2.1); rintro e w17 ⟨v244, rfl, ho0, hb⟩; have HO245 := am (Kd.R_lower (Kd.R_new' ho0 (Kd.R_lt (pkr HO242.1))) (below_size pbg)); replace HO242 := am (Kd.R_elder' (pkr HO242.1) (Kd.R_base ho0) hb); replace BK238 := bbh BK238 hb; replace HB := bst hb; (try clear hb); (try clear ho0); obtain ⟨Ao18, co18, eo18⟩ := Kd.R_slice HO245.1; subst eo18))
 go_roundg k1
 case measure => have := HK1.1; omega
 case rel => exact ⟨(wrap64 (x10_1 + 1)), prs, H', ⟨by have := HK1.1; omega⟩, ⟨pbk BK238.1⟩, ⟨pbg⟩⟩

/-! ### netclass_pairs_FreeChoice_1: function 113 -/
-- IMPORTS Derived.WalkMore
mutual
def netclass_pairs_FreeChoice_1.l0 : Nat → Int → Int → ByteArray → List (S46) → List (S41) → Option (Bool)
 | 0, _, _, _, _, _ => none
 | k + 1, x14, x15, x251000, x251001, x251002 => if x15 < x14 then ((net_Consumers.f k x251000 x251001 x251002 x15).bind fun t252 => (if (t252.length : Int) = 0 then (netclass_pairs_FreeChoice_1.l0 k x14 (wrap64 (x15 + 1)) x251000 x251001 x251002) else (netclass_pairs_FreeChoice_1.l1 k t252 x14 x15 (x251001.length : Int) 0 x251000 x251001 x251002))) else (some true)
def netclass_pairs_FreeChoice_1.l1 : Nat → List Int → Int → Int → Int → Int → ByteArray → List (S46) → List (S41) → Option (Bool)
 | 0, _, _, _, _, _, _, _, _ => none
 | k + 1, x6, x14, x15, x26, x27, x251000, x251001, x251002 => if x27 < x26 then ((net_Consumers.f k x251000 x251001 x251002 x27).bind fun t255 => ((netclass_meet.f k x6 t255).bind fun t258 => (if t258 = true then ((netclass_FreeChoice_1.f k x6 t255).bind fun t259 => (if t259 = true then (netclass_pairs_FreeChoice_1.l1 k x6 x14 x15 x26 (wrap64 (x27 + 1)) x251000 x251001 x251002) else (some false))) else (netclass_pairs_FreeChoice_1.l1 k x6 x14 x15 x26 (wrap64 (x27 + 1)) x251000 x251001 x251002)))) else (netclass_pairs_FreeChoice_1.l0 k x14 (wrap64 (x15 + 1)) x251000 x251001 x251002)
end
def netclass_pairs_FreeChoice_1.f (k : Nat) (a0_0 : ByteArray) (l0_1 : List (S46)) (l0_2 : List (S41)) : Option (Bool) := (netclass_simple.f k a0_0 l0_1 l0_2).bind fun t251 => (if t251 = true then (netclass_pairs_FreeChoice_1.l0 k (l0_1.length : Int) 0 a0_0 l0_1 l0_2) else (some false))
theorem netclass_pairs_FreeChoice_1.mono_l : ∀ k, M5 netclass_pairs_FreeChoice_1.l0 k ∧ M8 netclass_pairs_FreeChoice_1.l1 k
 | 0 => ⟨fun _ _ _ _ _ r h => by simp [netclass_pairs_FreeChoice_1.l0] at h, fun _ _ _ _ _ _ _ _ r h => by simp [netclass_pairs_FreeChoice_1.l1] at h⟩
 | k + 1 => by
  obtain ⟨ih0, ih1⟩ := netclass_pairs_FreeChoice_1.mono_l k
  refine ⟨?_, ?_⟩ <;> dsimp only [M5, M8] <;> intros <;> (first | unfold netclass_pairs_FreeChoice_1.l0 | unfold netclass_pairs_FreeChoice_1.l1) <;> repeat' first | (with_reducible first | apply ih0 | apply ih1 | apply net_Consumers.mono | apply netclass_FreeChoice_1.mono | apply netclass_meet.mono | apply netclass_simple.mono | apply lr | apply ln | apply li | refine lb ?_ fun _ => ?_)
theorem netclass_pairs_FreeChoice_1.mono : ∀ a0 a1 a2 k, LeO (netclass_pairs_FreeChoice_1.f k a0 a1 a2) (netclass_pairs_FreeChoice_1.f (k + 1) a0 a1 a2) := by
 intro a0 a1 a2 k
 obtain ⟨ih0, ih1⟩ := netclass_pairs_FreeChoice_1.mono_l k
 unfold netclass_pairs_FreeChoice_1.f
 repeat' first | (with_reducible first | apply ih0 | apply ih1 | apply net_Consumers.mono | apply netclass_FreeChoice_1.mono | apply netclass_meet.mono | apply netclass_simple.mono | apply lr | apply ln | apply li | refine lb ?_ fun _ => ?_)
set_option maxHeartbeats 8000000 in
set_option maxRecDepth 100000 in
theorem netclass_pairs_FreeChoice_1.calls (k : Nat) (a0_0 : ByteArray) (A0_1 : Option Addr) (c0_1 : Nat) (l0_1 : List (S46)) (A0_2 : Option Addr) (c0_2 : Nat) (l0_2 : List (S41)) (r : Bool) (w : World) (hr0_1 : Kd.C k46 w A0_1 l0_1.length l0_1) (hc0_1 : l0_1.length ≤ c0_1) (hr0_2 : Kd.C k41 w A0_2 l0_2.length l0_2) (hc0_2 : l0_2.length ≤ c0_2) (h : netclass_pairs_FreeChoice_1.f k a0_0 l0_1 l0_2 = some r) :
  Calls Try.prog 50 #[.agg #[.string a0_0, .slice A0_1 l0_1.length c0_1, .slice A0_2 l0_2.length c0_2], .func (.func 51) #[] #[]] w fun e w' => e = .returned (.bool r) ∧ Below w.heap.size w w' := by
 have hu25 := Try.underlying25
 have HR0_1 := am hr0_1
 have HC0_1 := am hc0_1
 clear hr0_1 hc0_1
 have HR0_2 := am hr0_2
 have HC0_2 := am hc0_2
 clear hr0_2 hc0_2
 have HB := am (Below.refl w.heap.size w)
 have H : ((netclass_simple.f k a0_0 l0_1 l0_2).bind fun t251 => (if t251 = true then (netclass_pairs_FreeChoice_1.l0 k (l0_1.length : Int) 0 a0_0 l0_1 l0_2) else (some false))) = some r := h
 clear h
 replace H := bnd H
 obtain ⟨t251, A2, H⟩ := H
 (try dsimp only at H)
 by_cases c3 : t251 = true
 rotate_left
 ·replace c3 := Bool.eq_false_iff.mpr c3
  subst c3
  rw [if_neg Bool.false_ne_true] at H
  obtain rfl := Option.some.inj H
  go_enter Try.func50, Try.ntmps50
  have fl_ := trivial
  iterate 3 (try ((first | clear fl_ | go_step3); go_wp2_with (first | ((with_reducible refine gate_dst (N := 2) rfl ?_); refine box_ev (N := 2) (cs := #[.string a0_0, .slice A0_1 l0_1.length c0_1, .slice A0_2 l0_2.length c0_2]) (t := 25) ?_; intro gb250 hg w33 hbox hb; have BK250 := am hbox; have GW250 := gwl hg; have GE250 := GW250; replace HB := bsl hb; clear hb hbox hg; have z34 := cf3 BK250.1) | ((with_reducible refine gate_callee (f := 44) rfl ?_); refine gC 10 Try.func44 _ (netclass_simple.calls k a0_0 _ _ l0_1 _ _ l0_2 false _ (csb HR0_1 HB) HC0_1.1 (csb HR0_2 HB) HC0_2.1 A2.1) ?_; rintro e w35 ⟨rfl, hb⟩; refine ⟨_, rfl, ?_⟩; replace BK250 := bbh BK250 hb; replace HB := bst hb; (try clear hb)))))
  (try rw [Exit.noGoto_ret])
  go_ret
  exact ⟨per, pbg⟩
 subst c3
 rw [if_pos rfl] at H
 have H' := am H
 clear H
 go_enter Try.func50, Try.ntmps50
 have fl_ := trivial
 iterate 3 (try ((first | clear fl_ | go_step3); go_wp2_with (first | ((with_reducible refine gate_dst (N := 2) rfl ?_); refine box_ev (N := 2) (cs := #[.string a0_0, .slice A0_1 l0_1.length c0_1, .slice A0_2 l0_2.length c0_2]) (t := 25) ?_; intro gb250 hg w4 hbox hb; have BK250 := am hbox; have GW250 := gwl hg; have GE250 := GW250; replace HB := bsl hb; clear hb hbox hg; have z5 := cf3 BK250.1) | ((with_reducible refine gate_callee (f := 44) rfl ?_); refine gC 10 Try.func44 _ (netclass_simple.calls k a0_0 _ _ l0_1 _ _ l0_2 true _ (csb HR0_1 HB) HC0_1.1 (csb HR0_2 HB) HC0_2.1 A2.1) ?_; rintro e w6 ⟨rfl, hb⟩; refine ⟨_, rfl, ?_⟩; replace BK250 := bbh BK250 hb; replace HB := bst hb; (try clear hb); have z7 := cf3 BK250.1))))
 go_loopg [15] k (fun kq v15 w' => ∃ (x15_1 : Int), v15 = .int .i64 x15_1 ∧ Aside0 (netclass_pairs_FreeChoice_1.l0 kq (l0_1.length : Int) x15_1 a0_0 l0_1 l0_2 = some r) ∧ Aside0 (kq ≤ k) ∧ Aside0 (w'.heap[gb250]? = some (.cells #[.string a0_0, (.slice A0_1 l0_1.length c0_1), (.slice A0_2 l0_2.length c0_2)] 25 (0, 0))) ∧ Aside0 (Below w.heap.size w w'))
 case atStart => exact ⟨(0), prs, H', ⟨Nat.le_refl _⟩, ⟨pbk BK250.1⟩, ⟨pbg⟩⟩
 clear H'
 try clear c3 z5 z7
 obtain ⟨x15_1, rfl, HA, HK1, BK250, HB⟩ := hrel
 obtain _ | k1 := gk
 ·exact absurd HA.1 (by simp [netclass_pairs_FreeChoice_1.l0])
 have H := HA.1
 clear HA
 simp only [netclass_pairs_FreeChoice_1.l0] at H
 by_cases c8 : x15_1 < (l0_1.length : Int)
 rotate_left
 ·rw [if_neg c8] at H
  have c8b0 : decide (x15_1 < (l0_1.length : Int)) = false := decide_eq_false c8
  clear c8
  obtain rfl := Option.some.inj H
  have fl_ := trivial
  iterate 3 (try ((first | clear fl_ | go_step3); go_wp2))
  (try rw [Exit.noGoto_ret])
  go_ret
  exact ⟨per, pbg⟩
 rw [if_pos c8] at H
 have c8b0 : decide (x15_1 < (l0_1.length : Int)) = true := decide_eq_true c8
 clear c8
 replace H := bnd H
 obtain ⟨t252, A9, H⟩ := H
 (try dsimp only at H)
 by_cases c10 : (t252.length : Int) = 0
 ·rw [if_pos c10] at H
  have c10b0 : ((t252.length : Int) == 0) = true := beq_iff_eq.mpr c10
  have c10b1 : ((t252.length : Int) != 0) = false := bne_eq_false_iff_eq.mpr c10
  clear c10
  have H' := am H
  clear H
  have z11 := cf3 BK250.1
  have fl_ := trivial
  iterate 3 (try ((first | clear fl_ | go_step3); go_wp2_with (first | ((with_reducible refine gate_callee (f := 47) rfl ?_); refine gC 20 Try.func47 _ (net_Consumers.calls k1 a0_0 _ _ l0_1 _ _ l0_2 x15_1 t252 _ (csb HR0_1 HB) HC0_1.1 (csb HR0_2 HB) HC0_2.1 A9.1) ?_; rintro e w12 ⟨v253, rfl, ho0, hb⟩; refine ⟨_, rfl, ?_⟩; have HO254 := am (Kd.R_lower ho0 (below_size pbg)); replace BK250 := bbh BK250 hb; replace HB := bst hb; (try clear hb); (try clear ho0); obtain ⟨Ao13, co13, eo13⟩ := Kd.R_slice HO254.1; subst eo13))))
  go_roundg k1
  case measure => have := HK1.1; omega
  case rel => exact ⟨(wrap64 (x15_1 + 1)), prs, H', ⟨by have := HK1.1; omega⟩, ⟨pbk BK250.1⟩, ⟨pbg⟩⟩
 rw [if_neg c10] at H
 have c10b0 : ((t252.length : Int) == 0) = false := beq_eq_false_iff_ne.mpr c10
 have c10b1 : ((t252.length : Int) != 0) = true := bne_iff_ne.mpr c10
 have c10b2 : ¬ (t252 = []) := fun h_ => c10 (by rw [h_]; rfl)
 have H' := am H
 clear H
 have z14 := cf3 BK250.1
 have fl_ := trivial
 iterate 3 (try ((first | clear fl_ | go_step3); go_wp2_with (first | ((with_reducible refine gate_callee (f := 47) rfl ?_); refine gC 20 Try.func47 _ (net_Consumers.calls k1 a0_0 _ _ l0_1 _ _ l0_2 x15_1 t252 _ (csb HR0_1 HB) HC0_1.1 (csb HR0_2 HB) HC0_2.1 A9.1) ?_; rintro e w15 ⟨v253, rfl, ho0, hb⟩; refine ⟨_, rfl, ?_⟩; have HO254 := am (Kd.R_lower ho0 (below_size pbg)); replace BK250 := bbh BK250 hb; replace HB := bst hb; (try clear hb); (try clear ho0); obtain ⟨Ao16, co16, eo16⟩ := Kd.R_slice HO254.1; subst eo16; have z17 := cf3 BK250.1))))
 go_loopg [27] k1 (fun kq v27 w' => ∃ (x27_2 : Int), v27 = .int .i64 x27_2 ∧ Aside0 (netclass_pairs_FreeChoice_1.l1 kq t252 (l0_1.length : Int) x15_1 (l0_1.length : Int) x27_2 a0_0 l0_1 l0_2 = some r) ∧ Aside0 (kq ≤ k1) ∧ Aside0 (Kd.R (Kd.int .i64) 3 w' w.heap.size (fun _ => True) (.slice Ao16 t252.length co16) t252) ∧ Aside0 (w'.heap[gb250]? = some (.cells #[.string a0_0, (.slice A0_1 l0_1.length c0_1), (.slice A0_2 l0_2.length c0_2)] 25 (0, 0))) ∧ Aside0 (Below w.heap.size w w'))
 case atStart => exact ⟨(0), prs, H', ⟨Nat.le_refl _⟩, ⟨pkr HO254.1⟩, ⟨pbk BK250.1⟩, ⟨pbg⟩⟩
 clear H'
 try clear c3 c8 c8b0 c10 c10b0 c10b1 c10b2 z11 z14 z17 z5 z7
 obtain ⟨x27_2, rfl, HA, HK2, HO_6, BK250, HB⟩ := hrel
 obtain _ | k2 := gk
 ·exact absurd HA.1 (by simp [netclass_pairs_FreeChoice_1.l1])
 have H := HA.1
 clear HA
 simp only [netclass_pairs_FreeChoice_1.l1] at H
 by_cases c18 : x27_2 < (l0_1.length : Int)
 rotate_left
 ·rw [if_neg c18] at H
  have c18b0 : decide (x27_2 < (l0_1.length : Int)) = false := decide_eq_false c18
  clear c18
  have H' := am H
  clear H
  have fl_ := trivial
  iterate 3 (try ((first | clear fl_ | go_step3); go_wp2))
  go_roundg k2
  case measure => have := HK1.1; have := HK2.1; omega
  case rel => exact ⟨(wrap64 (x15_1 + 1)), prs, H', ⟨by have := HK1.1; have := HK2.1; omega⟩, ⟨pbk BK250.1⟩, ⟨pbg⟩⟩
 rw [if_pos c18] at H
 have c18b0 : decide (x27_2 < (l0_1.length : Int)) = true := decide_eq_true c18
 clear c18
 replace H := bnd H
 obtain ⟨t255, A19, H⟩ := H
 (try dsimp only at H)
 replace H := bnd H
 obtain ⟨t258, A20, H⟩ := H
 (try dsimp only at H)
 by_cases c21 : t258 = true
 rotate_left
 ·replace c21 := Bool.eq_false_iff.mpr c21
  subst c21
  rw [if_neg Bool.false_ne_true] at H
  have H' := am H
  clear H
  have z30 := cf3 BK250.1
  have fl_ := trivial
  iterate 3 (try ((first | clear fl_ | go_step3); go_wp2_with (first | ((with_reducible refine gate_callee (f := 47) rfl ?_); refine gC 32 Try.func47 _ (net_Consumers.calls k2 a0_0 _ _ l0_1 _ _ l0_2 x27_2 t255 _ (csb HR0_1 HB) HC0_1.1 (csb HR0_2 HB) HC0_2.1 A19.1) ?_; rintro e w31 ⟨v256, rfl, ho0, hb⟩; refine ⟨_, rfl, ?_⟩; have HO257 := am (Kd.R_lower (Kd.R_new' ho0 (Kd.R_lt (pkr HO_6.1))) (below_size pbg)); replace HO_6 := am (Kd.R_elder' (pkr HO_6.1) (Kd.R_base ho0) hb); replace BK250 := bbh BK250 hb; replace HB := bst hb; (try clear hb); (try clear ho0); obtain ⟨Ao32, co32, eo32⟩ := Kd.R_slice HO257.1; subst eo32) | ((with_reducible refine gate_callee (f := 56) rfl ?_); refine gC 35 Try.func56 _ (netclass_meet.calls k2 _ _ t252 _ _ t255 false _ (csd ((Kd.R_reads' HO_6.1).2.2)) ((Kd.R_reads' HO_6.1).2.1) (csd ((Kd.R_reads' HO257.1).2.2)) ((Kd.R_reads' HO257.1).2.1) A20.1) ?_; rintro e w' ⟨rfl, ⟨nd, rfl⟩⟩; refine ⟨_, rfl, ?_⟩))))
  go_roundg k2
  case measure => have := HK1.1; have := HK2.1; omega
  case rel => exact ⟨(wrap64 (x27_2 + 1)), prs, H', ⟨by have := HK1.1; have := HK2.1; omega⟩, ⟨by (with_reducible repeat (first | apply Kd.R_alloc | apply Kd.R_drewN | apply Kd.R_drew)); exact Kd.R_mono HO_6.1 (fun _ hk => trivial)⟩, ⟨pbk BK250.1⟩, ⟨pbg⟩⟩
 subst c21
 rw [if_pos rfl] at H
 replace H := bnd H
 obtain ⟨t259, A22, H⟩ := H
 (try dsimp only at H)
 by_cases c23 : t259 = true
 rotate_left
 ·replace c23 := Bool.eq_false_iff.mpr c23
  subst c23
  rw [if_neg Bool.false_ne_true] at H
  obtain rfl := Option.some.inj H
  have z27 := cf3 BK250.1
  have fl_ := trivial
  iterate 3 (try ((first | clear fl_ | go_step3); go_wp2_with (first | ((with_reducible refine gate_callee (f := 47) rfl ?_); refine gC 32 Try.func47 _ (net_Consumers.calls k2 a0_0 _ _ l0_1 _ _ l0_2 x27_2 t255 _ (csb HR0_1 HB) HC0_1.1 (csb HR0_2 HB) HC0_2.1 A19.1) ?_; rintro e w28 ⟨v256, rfl, ho0, hb⟩; refine ⟨_, rfl, ?_⟩; have HO257 := am (Kd.R_lower (Kd.R_new' ho0 (Kd.R_lt (pkr HO_6.1))) (below_size pbg)); replace HO_6 := am (Kd.R_elder' (pkr HO_6.1) (Kd.R_base ho0) hb); replace BK250 := bbh BK250 hb; replace HB := bst hb; (try clear hb); (try clear ho0); obtain ⟨Ao29, co29, eo29⟩ := Kd.R_slice HO257.1; subst eo29) | ((with_reducible refine gate_callee (f := 56) rfl ?_); refine gC 35 Try.func56 _ (netclass_meet.calls k2 _ _ t252 _ _ t255 true _ (csd ((Kd.R_reads' HO_6.1).2.2)) ((Kd.R_reads' HO_6.1).2.1) (csd ((Kd.R_reads' HO257.1).2.2)) ((Kd.R_reads' HO257.1).2.1) A20.1) ?_; rintro e w' ⟨rfl, ⟨nd, rfl⟩⟩; refine ⟨_, rfl, ?_⟩) | (go_at_call 51; (with_reducible refine (netclass_FreeChoice_1.calls k2 _ _ t252 _ _ t255 false _ ?side1 ?side2 ?side3 ?side4 A22.1).mono ?_); (case side1 => exact csd ((Kd.R_reads' HO_6.1).2.2)); (case side2 => exact (Kd.R_reads' HO_6.1).2.1); (case side3 => exact csd ((Kd.R_reads' HO257.1).2.2)); (case side4 => exact (Kd.R_reads' HO257.1).2.1); rintro e w' ⟨rfl, ⟨nd, rfl⟩⟩))))
  (try rw [Exit.noGoto_ret])
  go_ret
  exact ⟨per, pbg⟩
 subst c23
 rw [if_pos rfl] at H
 have H' := am H
 clear H
 have z24 := cf3 BK250.1
 have fl_ := trivial
 iterate 3 (try ((first | clear fl_ | go_step3); go_wp2_with (first | ((with_reducible refine gate_callee (f := 47) rfl ?_); refine gC 32 Try.func47 _ (net_Consumers.calls k2 a0_0 _ _ l0_1 _ _ l0_2 x27_2 t255 _ (csb HR0_1 HB) HC0_1.1 (csb HR0_2 HB) HC0_2.1 A19.1) ?_; rintro e w25 ⟨v256, rfl, ho0, hb⟩; refine ⟨_, rfl, ?_⟩; have HO257 := am (Kd.R_lower (Kd.R_new' ho0 (Kd.R_lt (pkr HO_6.1))) (below_size pbg)); replace HO_6 := am (Kd.R_elder' (pkr HO_6.1) (Kd.R_base ho0) hb); replace BK250 := bbh BK250 hb; replace HB := bst hb; (try clear hb); (try clear ho0); obtain ⟨Ao26, co26, eo26⟩ := Kd.R_slice HO257.1; subst eo26) | ((with_reducible refine gate_callee (f := 56) rfl ?_); refine gC 35 Try.func56 _ (netclass_meet.calls k2 _ _ t252 _ _ t255 true _ (csd ((Kd.R_reads' HO_6.1).2.2)) ((Kd.R_reads' HO_6.1).2.1) (csd ((Kd.R_reads' HO257.1).2.2)) ((Kd.R_reads' HO257.1).2.1) A20.1) ?_; rintro e w' ⟨rfl, ⟨nd, rfl⟩⟩; refine ⟨_, rfl, ?_⟩) | (go_at_call 51; (with_reducible refine (netclass_FreeChoice_1.calls k2 _ _ t252 _ _ t255 true _ ?side1 ?side2 ?side3 ?side4 A22.1).mono ?_); (case side1 => exact csd ((Kd.R_reads' HO_6.1).2.2)); (case side2 => exact (Kd.R_reads' HO_6.1).2.1); (case side3 => exact csd ((Kd.R_reads' HO257.1).2.2)); (case side4 => exact (Kd.R_reads' HO257.1).2.1); rintro e w' ⟨rfl, ⟨nd, rfl⟩⟩))))
 go_roundg k2
 case measure => have := HK1.1; have := HK2.1; omega
 case rel => exact ⟨(wrap64 (x27_2 + 1)), prs, H', ⟨by have := HK1.1; have := HK2.1; omega⟩, ⟨by (with_reducible repeat (first | apply Kd.R_alloc | apply Kd.R_drewN | apply Kd.R_drew)); exact Kd.R_mono HO_6.1 (fun _ hk => trivial)⟩, ⟨pbk BK250.1⟩, ⟨pbg⟩⟩

/-! ### netclass_FreeChoice: function 22 -/
def netclass_FreeChoice.f (k : Nat) (a0_0 : ByteArray) (l0_1 : List (S46)) (l0_2 : List (S41)) : Option (Bool) := (netclass_pairs_FreeChoice_1.f k a0_0 l0_1 l0_2).bind fun t261 => (some t261)
theorem netclass_FreeChoice.mono : ∀ a0 a1 a2 k, LeO (netclass_FreeChoice.f k a0 a1 a2) (netclass_FreeChoice.f (k + 1) a0 a1 a2) := by
 intro a0 a1 a2 k
 unfold netclass_FreeChoice.f
 repeat' first | (with_reducible first | apply netclass_pairs_FreeChoice_1.mono | apply lr | apply ln | apply li | refine lb ?_ fun _ => ?_)
set_option maxHeartbeats 8000000 in
set_option maxRecDepth 100000 in
theorem netclass_FreeChoice.calls (k : Nat) (a0_0 : ByteArray) (A0_1 : Option Addr) (c0_1 : Nat) (l0_1 : List (S46)) (A0_2 : Option Addr) (c0_2 : Nat) (l0_2 : List (S41)) (r : Bool) (w : World) (hr0_1 : Kd.C k46 w A0_1 l0_1.length l0_1) (hc0_1 : l0_1.length ≤ c0_1) (hr0_2 : Kd.C k41 w A0_2 l0_2.length l0_2) (hc0_2 : l0_2.length ≤ c0_2) (h : netclass_FreeChoice.f k a0_0 l0_1 l0_2 = some r) :
  Calls Try.prog 22 #[.agg #[.string a0_0, .slice A0_1 l0_1.length c0_1, .slice A0_2 l0_2.length c0_2]] w fun e w' => e = .returned (.bool r) ∧ Below w.heap.size w w' := by
 have hu25 := Try.underlying25
 have HR0_1 := am hr0_1
 have HC0_1 := am hc0_1
 clear hr0_1 hc0_1
 have HR0_2 := am hr0_2
 have HC0_2 := am hc0_2
 clear hr0_2 hc0_2
 have HB := am (Below.refl w.heap.size w)
 have H : ((netclass_pairs_FreeChoice_1.f k a0_0 l0_1 l0_2).bind fun t261 => (some t261)) = some r := h
 clear h
 replace H := bnd H
 obtain ⟨t261, A2, H⟩ := H
 (try dsimp only at H)
 obtain rfl := Option.some.inj H
 go_enter Try.func22, Try.ntmps22
 go_wp2_with (first | ((with_reducible refine gate_dst (N := 1) rfl ?_); refine box_ev (N := 1) (cs := #[.string a0_0, .slice A0_1 l0_1.length c0_1, .slice A0_2 l0_2.length c0_2]) (t := 25) ?_; intro gb260 hg w3 hbox hb; have BK260 := am hbox; have GW260 := gwl hg; have GE260 := GW260; replace HB := bsl hb; clear hb hbox hg; have z4 := cf3 BK260.1) | ((with_reducible refine gate_callee (f := 50) rfl ?_); refine gC 4 Try.func50 _ (netclass_pairs_FreeChoice_1.calls k a0_0 _ _ l0_1 _ _ l0_2 t261 _ (csb HR0_1 HB) HC0_1.1 (csb HR0_2 HB) HC0_2.1 A2.1) ?_; rintro e w5 ⟨rfl, hb⟩; refine ⟨_, rfl, ?_⟩; replace BK260 := bbh BK260 hb; replace HB := bst hb; (try clear hb)))
 go_ret
 exact ⟨per, pbg⟩

/-! ### netclass_pairs_Asymmetric_1: function 114 -/
-- IMPORTS Derived.WalkMore
mutual
def netclass_pairs_Asymmetric_1.l0 : Nat → Int → Int → ByteArray → List (S46) → List (S41) → Option (Bool)
 | 0, _, _, _, _, _ => none
 | k + 1, x14, x15, x265000, x265001, x265002 => if x15 < x14 then ((net_Consumers.f k x265000 x265001 x265002 x15).bind fun t266 => (if (t266.length : Int) = 0 then (netclass_pairs_Asymmetric_1.l0 k x14 (wrap64 (x15 + 1)) x265000 x265001 x265002) else (netclass_pairs_Asymmetric_1.l1 k t266 x14 x15 (x265001.length : Int) 0 x265000 x265001 x265002))) else (some true)
def netclass_pairs_Asymmetric_1.l1 : Nat → List Int → Int → Int → Int → Int → ByteArray → List (S46) → List (S41) → Option (Bool)
 | 0, _, _, _, _, _, _, _, _ => none
 | k + 1, x6, x14, x15, x26, x27, x265000, x265001, x265002 => if x27 < x26 then ((net_Consumers.f k x265000 x265001 x265002 x27).bind fun t269 => ((netclass_meet.f k x6 t269).bind fun t272 => (if t272 = true then ((netclass_Asymmetric_1.f k x6 t269).bind fun t273 => (if t273 = true then (netclass_pairs_Asymmetric_1.l1 k x6 x14 x15 x26 (wrap64 (x27 + 1)) x265000 x265001 x265002) else (some false))) else (netclass_pairs_Asymmetric_1.l1 k x6 x14 x15 x26 (wrap64 (x27 + 1)) x265000 x265001 x265002)))) else (netclass_pairs_Asymmetric_1.l0 k x14 (wrap64 (x15 + 1)) x265000 x265001 x265002)
end
def netclass_pairs_Asymmetric_1.f (k : Nat) (a0_0 : ByteArray) (l0_1 : List (S46)) (l0_2 : List (S41)) : Option (Bool) := (netclass_simple.f k a0_0 l0_1 l0_2).bind fun t265 => (if t265 = true then (netclass_pairs_Asymmetric_1.l0 k (l0_1.length : Int) 0 a0_0 l0_1 l0_2) else (some false))
theorem netclass_pairs_Asymmetric_1.mono_l : ∀ k, M5 netclass_pairs_Asymmetric_1.l0 k ∧ M8 netclass_pairs_Asymmetric_1.l1 k
 | 0 => ⟨fun _ _ _ _ _ r h => by simp [netclass_pairs_Asymmetric_1.l0] at h, fun _ _ _ _ _ _ _ _ r h => by simp [netclass_pairs_Asymmetric_1.l1] at h⟩
 | k + 1 => by
  obtain ⟨ih0, ih1⟩ := netclass_pairs_Asymmetric_1.mono_l k
  refine ⟨?_, ?_⟩ <;> dsimp only [M5, M8] <;> intros <;> (first | unfold netclass_pairs_Asymmetric_1.l0 | unfold netclass_pairs_Asymmetric_1.l1) <;> repeat' first | (with_reducible first | apply ih0 | apply ih1 | apply net_Consumers.mono | apply netclass_Asymmetric_1.mono | apply netclass_meet.mono | apply netclass_simple.mono | apply lr | apply ln | apply li | refine lb ?_ fun _ => ?_)
theorem netclass_pairs_Asymmetric_1.mono : ∀ a0 a1 a2 k, LeO (netclass_pairs_Asymmetric_1.f k a0 a1 a2) (netclass_pairs_Asymmetric_1.f (k + 1) a0 a1 a2) := by
 intro a0 a1 a2 k
 obtain ⟨ih0, ih1⟩ := netclass_pairs_Asymmetric_1.mono_l k
 unfold netclass_pairs_Asymmetric_1.f
 repeat' first | (with_reducible first | apply ih0 | apply ih1 | apply net_Consumers.mono | apply netclass_Asymmetric_1.mono | apply netclass_meet.mono | apply netclass_simple.mono | apply lr | apply ln | apply li | refine lb ?_ fun _ => ?_)
set_option maxHeartbeats 8000000 in
set_option maxRecDepth 100000 in
theorem netclass_pairs_Asymmetric_1.calls (k : Nat) (a0_0 : ByteArray) (A0_1 : Option Addr) (c0_1 : Nat) (l0_1 : List (S46)) (A0_2 : Option Addr) (c0_2 : Nat) (l0_2 : List (S41)) (r : Bool) (w : World) (hr0_1 : Kd.C k46 w A0_1 l0_1.length l0_1) (hc0_1 : l0_1.length ≤ c0_1) (hr0_2 : Kd.C k41 w A0_2 l0_2.length l0_2) (hc0_2 : l0_2.length ≤ c0_2) (h : netclass_pairs_Asymmetric_1.f k a0_0 l0_1 l0_2 = some r) :
  Calls Try.prog 50 #[.agg #[.string a0_0, .slice A0_1 l0_1.length c0_1, .slice A0_2 l0_2.length c0_2], .func (.func 55) #[] #[]] w fun e w' => e = .returned (.bool r) ∧ Below w.heap.size w w' := by
 have hu25 := Try.underlying25
 have HR0_1 := am hr0_1
 have HC0_1 := am hc0_1
 clear hr0_1 hc0_1
 have HR0_2 := am hr0_2
 have HC0_2 := am hc0_2
 clear hr0_2 hc0_2
 have HB := am (Below.refl w.heap.size w)
 have H : ((netclass_simple.f k a0_0 l0_1 l0_2).bind fun t265 => (if t265 = true then (netclass_pairs_Asymmetric_1.l0 k (l0_1.length : Int) 0 a0_0 l0_1 l0_2) else (some false))) = some r := h
 clear h
 replace H := bnd H
 obtain ⟨t265, A2, H⟩ := H
 (try dsimp only at H)
 by_cases c3 : t265 = true
 rotate_left
 ·replace c3 := Bool.eq_false_iff.mpr c3
  subst c3
  rw [if_neg Bool.false_ne_true] at H
  obtain rfl := Option.some.inj H
  go_enter Try.func50, Try.ntmps50
  have fl_ := trivial
  iterate 3 (try ((first | clear fl_ | go_step3); go_wp2_with (first | ((with_reducible refine gate_dst (N := 2) rfl ?_); refine box_ev (N := 2) (cs := #[.string a0_0, .slice A0_1 l0_1.length c0_1, .slice A0_2 l0_2.length c0_2]) (t := 25) ?_; intro gb264 hg w33 hbox hb; have BK264 := am hbox; have GW264 := gwl hg; have GE264 := GW264; replace HB := bsl hb; clear hb hbox hg; have z34 := cf3 BK264.1) | ((with_reducible refine gate_callee (f := 44) rfl ?_); refine gC 10 Try.func44 _ (netclass_simple.calls k a0_0 _ _ l0_1 _ _ l0_2 false _ (csb HR0_1 HB) HC0_1.1 (csb HR0_2 HB) HC0_2.1 A2.1) ?_; rintro e w35 ⟨rfl, hb⟩; refine ⟨_, rfl, ?_⟩; replace BK264 := bbh BK264 hb; replace HB := bst hb; (try clear hb)))))
  (try rw [Exit.noGoto_ret])
  go_ret
  exact ⟨per, pbg⟩
 subst c3
 rw [if_pos rfl] at H
 have H' := am H
 clear H
 go_enter Try.func50, Try.ntmps50
 have fl_ := trivial
 iterate 3 (try ((first | clear fl_ | go_step3); go_wp2_with (first | ((with_reducible refine gate_dst (N := 2) rfl ?_); refine box_ev (N := 2) (cs := #[.string a0_0, .slice A0_1 l0_1.length c0_1, .slice A0_2 l0_2.length c0_2]) (t := 25) ?_; intro gb264 hg w4 hbox hb; have BK264 := am hbox; have GW264 := gwl hg; have GE264 := GW264; replace HB := bsl hb; clear hb hbox hg; have z5 := cf3 BK264.1) | ((with_reducible refine gate_callee (f := 44) rfl ?_); refine gC 10 Try.func44 _ (netclass_simple.calls k a0_0 _ _ l0_1 _ _ l0_2 true _ (csb HR0_1 HB) HC0_1.1 (csb HR0_2 HB) HC0_2.1 A2.1) ?_; rintro e w6 ⟨rfl, hb⟩; refine ⟨_, rfl, ?_⟩; replace BK264 := bbh BK264 hb; replace HB := bst hb; (try clear hb); have z7 := cf3 BK264.1))))
 go_loopg [15] k (fun kq v15 w' => ∃ (x15_1 : Int), v15 = .int .i64 x15_1 ∧ Aside0 (netclass_pairs_Asymmetric_1.l0 kq (l0_1.length : Int) x15_1 a0_0 l0_1 l0_2 = some r) ∧ Aside0 (kq ≤ k) ∧ Aside0 (w'.heap[gb264]? = some (.cells #[.string a0_0, (.slice A0_1 l0_1.length c0_1), (.slice A0_2 l0_2.length c0_2)] 25 (0, 0))) ∧ Aside0 (Below w.heap.size w w'))
 case atStart => exact ⟨(0), prs, H', ⟨Nat.le_refl _⟩, ⟨pbk BK264.1⟩, ⟨pbg⟩⟩
 clear H'
 try clear c3 z5 z7
 obtain ⟨x15_1, rfl, HA, HK1, BK264, HB⟩ := hrel
 obtain _ | k1 := gk
 ·exact absurd HA.1 (by simp [netclass_pairs_Asymmetric_1.l0])
 have H := HA.1
 clear HA
 simp only [netclass_pairs_Asymmetric_1.l0] at H
 by_cases c8 : x15_1 < (l0_1.length : Int)
 rotate_left
 ·rw [if_neg c8] at H
  have c8b0 : decide (x15_1 < (l0_1.length : Int)) = false := decide_eq_false c8
  clear c8
  obtain rfl := Option.some.inj H
  have fl_ := trivial
  iterate 3 (try ((first | clear fl_ | go_step3); go_wp2))
  (try rw [Exit.noGoto_ret])
  go_ret
  exact ⟨per, pbg⟩
 rw [if_pos c8] at H
 have c8b0 : decide (x15_1 < (l0_1.length : Int)) = true := decide_eq_true c8
 clear c8
 replace H := bnd H
 obtain ⟨t266, A9, H⟩ := H
 (try dsimp only at H)
 by_cases c10 : (t266.length : Int) = 0
 ·rw [if_pos c10] at H
  have c10b0 : ((t266.length : Int) == 0) = true := beq_iff_eq.mpr c10
  have c10b1 : ((t266.length : Int) != 0) = false := bne_eq_false_iff_eq.mpr c10
  clear c10
  have H' := am H
  clear H
  have z11 := cf3 BK264.1
  have fl_ := trivial
  iterate 3 (try ((first | clear fl_ | go_step3); go_wp2_with (first | ((with_reducible refine gate_callee (f := 47) rfl ?_); refine gC 20 Try.func47 _ (net_Consumers.calls k1 a0_0 _ _ l0_1 _ _ l0_2 x15_1 t266 _ (csb HR0_1 HB) HC0_1.1 (csb HR0_2 HB) HC0_2.1 A9.1) ?_; rintro e w12 ⟨v267, rfl, ho0, hb⟩; refine ⟨_, rfl, ?_⟩; have HO268 := am (Kd.R_lower ho0 (below_size pbg)); replace BK264 := bbh BK264 hb; replace HB := bst hb; (try clear hb); (try clear ho0); obtain ⟨Ao13, co13, eo13⟩ := Kd.R_slice HO268.1; subst eo13))))
  go_roundg k1
  case measure => have := HK1.1; omega
  case rel => exact ⟨(wrap64 (x15_1 + 1)), prs, H', ⟨by have := HK1.1; omega⟩, ⟨pbk BK264.1⟩, ⟨pbg⟩⟩
 rw [if_neg c10] at H
 have c10b0 : ((t266.length : Int) == 0) = false := beq_eq_false_iff_ne.mpr c10
 have c10b1 : ((t266.length : Int) != 0) = true := bne_iff_ne.mpr c10
 have c10b2 : ¬ (t266 = []) := fun h_ => c10 (by rw [h_]; rfl)
 have H' := am H
 clear H
 have z14 := cf3 BK264.1
 have fl_ := trivial
 iterate 3 (try ((first | clear fl_ | go_step3); go_wp2_with (first | ((with_reducible refine gate_callee (f := 47) rfl ?_); refine gC 20 Try.func47 _ (net_Consumers.calls k1 a0_0 _ _ l0_1 _ _ l0_2 x15_1 t266 _ (csb HR0_1 HB) HC0_1.1 (csb HR0_2 HB) HC0_2.1 A9.1) ?_; rintro e w15 ⟨v267, rfl, ho0, hb⟩; refine ⟨_, rfl, ?_⟩; have HO268 := am (Kd.R_lower ho0 (below_size pbg)); replace BK264 := bbh BK264 hb; replace HB := bst hb; (try clear hb); (try clear ho0); obtain ⟨Ao16, co16, eo16⟩ := Kd.R_slice HO268.1; subst eo16; have z17 := cf3 BK264.1))))
 go_loopg [27] k1 (fun kq v27 w' => ∃ (x27_2 : Int), v27 = .int .i64 x27_2 ∧ Aside0 (netclass_pairs_Asymmetric_1.l1 kq t266 (l0_1.length : Int) x15_1 (l0_1.length : Int) x27_2 a0_0 l0_1 l0_2 = some r) ∧ Aside0 (kq ≤ k1) ∧ Aside0 (Kd.R (Kd.int .i64) 3 w' w.heap.size (fun _ => True) (.slice Ao16 t266.length co16) t266) ∧ Aside0 (w'.heap[gb264]? = some (.cells #[.string a0_0, (.slice A0_1 l0_1.length c0_1), (.slice A0_2 l0_2.length c0_2)] 25 (0, 0))) ∧ Aside0 (Below w.heap.size w w'))
 case atStart => exact ⟨(0), prs, H', ⟨Nat.le_refl _⟩, ⟨pkr HO268.1⟩, ⟨pbk BK264.1⟩, ⟨pbg⟩⟩
 clear H'
 try clear c3 c8 c8b0 c10 c10b0 c10b1 c10b2 z11 z14 z17 z5 z7
 obtain ⟨x27_2, rfl, HA, HK2, HO_6, BK264, HB⟩ := hrel
 obtain _ | k2 := gk
 ·exact absurd HA.1 (by simp [netclass_pairs_Asymmetric_1.l1])
 have H := HA.1
 clear HA
 simp only [netclass_pairs_Asymmetric_1.l1] at H
 by_cases c18 : x27_2 < (l0_1.length : Int)
 rotate_left
 ·rw [if_neg c18] at H
  have c18b0 : decide (x27_2 < (l0_1.length : Int)) = false := decide_eq_false c18
  clear c18
  have H' := am H
  clear H
  have fl_ := trivial
  iterate 3 (try ((first | clear fl_ | go_step3); go_wp2))
  go_roundg k2
  case measure => have := HK1.1; have := HK2.1; omega
  case rel => exact ⟨(wrap64 (x15_1 + 1)), prs, H', ⟨by have := HK1.1; have := HK2.1; omega⟩, ⟨pbk BK264.1⟩, ⟨pbg⟩⟩
 rw [if_pos c18] at H
 have c18b0 : decide (x27_2 < (l0_1.length : Int)) = true := decide_eq_true c18
 clear c18
 replace H := bnd H
 obtain ⟨t269, A19, H⟩ := H
 (try dsimp only at H)
 replace H := bnd H
 obtain ⟨t272, A20, H⟩ := H
 (try dsimp only at H)
 by_cases c21 : t272 = true
 rotate_left
 ·replace c21 := Bool.eq_false_iff.mpr c21
  subst c21
  rw [if_neg Bool.false_ne_true] at H
  have H' := am H
  clear H
  have z30 := cf3 BK264.1
  have fl_ := trivial
  iterate 3 (try ((first | clear fl_ | go_step3); go_wp2_with (first | ((with_reducible refine gate_callee (f := 47) rfl ?_); refine gC 32 Try.func47 _ (net_Consumers.calls k2 a0_0 _ _ l0_1 _ _ l0_2 x27_2 t269 _ (csb HR0_1 HB) HC0_1.1 (csb HR0_2 HB) HC0_2.1 A19.1) ?_; rintro e w31 ⟨v270, rfl, ho0, hb⟩; refine ⟨_, rfl, ?_⟩; have HO271 := am (Kd.R_lower (Kd.R_new' ho0 (Kd.R_lt (pkr HO_6.1))) (below_size pbg)); replace HO_6 := am (Kd.R_elder' (pkr HO_6.1) (Kd.R_base ho0) hb); replace BK264 := bbh BK264 hb; replace HB := bst hb; (try clear hb); (try clear ho0); obtain ⟨Ao32, co32, eo32⟩ := Kd.R_slice HO271.1; subst eo32) | ((with_reducible refine gate_callee (f := 56) rfl ?_); refine gC 35 Try.func56 _ (netclass_meet.calls k2 _ _ t266 _ _ t269 false _ (csd ((Kd.R_reads' HO_6.1).2.2)) ((Kd.R_reads' HO_6.1).2.1) (csd ((Kd.R_reads' HO271.1).2.2)) ((Kd.R_reads' HO271.1).2.1) A20.1) ?_; rintro e w' ⟨rfl, ⟨nd, rfl⟩⟩; refine ⟨_, rfl, ?_⟩))))
  go_roundg k2
  case measure => have := HK1.1; have := HK2.1; omega
  case rel => exact ⟨(wrap64 (x27_2 + 1)), prs, H', ⟨by have := HK1.1; have := HK2.1; omega⟩, ⟨by (with_reducible repeat (first | apply Kd.R_alloc | apply Kd.R_drewN | apply Kd.R_drew)); exact Kd.R_mono HO_6.1 (fun _ hk => trivial)⟩, ⟨pbk BK264.1⟩, ⟨pbg⟩⟩
 subst c21
 rw [if_pos rfl] at H
 replace H := bnd H
 obtain ⟨t273, A22, H⟩ := H
 (try dsimp only at H)
 by_cases c23 : t273 = true
 rotate_left
 ·replace c23 := Bool.eq_false_iff.mpr c23
  subst c23
  rw [if_neg Bool.false_ne_true] at H
  obtain rfl := Option.some.inj H
  have z27 := cf3 BK264.1
  have fl_ := trivial
  iterate 3 (try ((first | clear fl_ | go_step3); go_wp2_with (first | ((with_reducible refine gate_callee (f := 47) rfl ?_); refine gC 32 Try.func47 _ (net_Consumers.calls k2 a0_0 _ _ l0_1 _ _ l0_2 x27_2 t269 _ (csb HR0_1 HB) HC0_1.1 (csb HR0_2 HB) HC0_2.1 A19.1) ?_; rintro e w28 ⟨v270, rfl, ho0, hb⟩; refine ⟨_, rfl, ?_⟩; have HO271 := am (Kd.R_lower (Kd.R_new' ho0 (Kd.R_lt (pkr HO_6.1))) (below_size pbg)); replace HO_6 := am (Kd.R_elder' (pkr HO_6.1) (Kd.R_base ho0) hb); replace BK264 := bbh BK264 hb; replace HB := bst hb; (try clear hb); (try clear ho0); obtain ⟨Ao29, co29, eo29⟩ := Kd.R_slice HO271.1; subst eo29) | ((with_reducible refine gate_callee (f := 56) rfl ?_); refine gC 35 Try.func56 _ (netclass_meet.calls k2 _ _ t266 _ _ t269 true _ (csd ((Kd.R_reads' HO_6.1).2.2)) ((Kd.R_reads' HO_6.1).2.1) (csd ((Kd.R_reads' HO271.1).2.2)) ((Kd.R_reads' HO271.1).2.1) A20.1) ?_; rintro e w' ⟨rfl, ⟨nd, rfl⟩⟩; refine ⟨_, rfl, ?_⟩) | (go_at_call 55; (with_reducible refine (netclass_Asymmetric_1.calls k2 _ _ t266 _ _ t269 false _ ?side1 ?side2 ?side3 ?side4 A22.1).mono ?_); (case side1 => exact csd ((Kd.R_reads' HO_6.1).2.2)); (case side2 => exact (Kd.R_reads' HO_6.1).2.1); (case side3 => exact csd ((Kd.R_reads' HO271.1).2.2)); (case side4 => exact (Kd.R_reads' HO271.1).2.1); rintro e w' ⟨rfl, ⟨nd, rfl⟩⟩))))
  (try rw [Exit.noGoto_ret])
  go_ret
  exact ⟨per, pbg⟩
 subst c23
 rw [if_pos rfl] at H
 have H' := am H
 clear H
 have z24 := cf3 BK264.1
 have fl_ := trivial
 iterate 3 (try ((first | clear fl_ | go_step3); go_wp2_with (first | ((with_reducible refine gate_callee (f := 47) rfl ?_); refine gC 32 Try.func47 _ (net_Consumers.calls k2 a0_0 _ _ l0_1 _ _ l0_2 x27_2 t269 _ (csb HR0_1 HB) HC0_1.1 (csb HR0_2 HB) HC0_2.1 A19.1) ?_; rintro e w25 ⟨v270, rfl, ho0, hb⟩; refine ⟨_, rfl, ?_⟩; have HO271 := am (Kd.R_lower (Kd.R_new' ho0 (Kd.R_lt (pkr HO_6.1))) (below_size pbg)); replace HO_6 := am (Kd.R_elder' (pkr HO_6.1) (Kd.R_base ho0) hb); replace BK264 := bbh BK264 hb; replace HB := bst hb; (try clear hb); (try clear ho0); obtain ⟨Ao26, co26, eo26⟩ := Kd.R_slice HO271.1; subst eo26) | ((with_reducible refine gate_callee (f := 56) rfl ?_); refine gC 35 Try.func56 _ (netclass_meet.calls k2 _ _ t266 _ _ t269 true _ (csd ((Kd.R_reads' HO_6.1).2.2)) ((Kd.R_reads' HO_6.1).2.1) (csd ((Kd.R_reads' HO271.1).2.2)) ((Kd.R_reads' HO271.1).2.1) A20.1) ?_; rintro e w' ⟨rfl, ⟨nd, rfl⟩⟩; refine ⟨_, rfl, ?_⟩) | (go_at_call 55; (with_reducible refine (netclass_Asymmetric_1.calls k2 _ _ t266 _ _ t269 true _ ?side1 ?side2 ?side3 ?side4 A22.1).mono ?_); (case side1 => exact csd ((Kd.R_reads' HO_6.1).2.2)); (case side2 => exact (Kd.R_reads' HO_6.1).2.1); (case side3 => exact csd ((Kd.R_reads' HO271.1).2.2)); (case side4 => exact (Kd.R_reads' HO271.1).2.1); rintro e w' ⟨rfl, ⟨nd, rfl⟩⟩))))
 go_roundg k2
 case measure => have := HK1.1; have := HK2.1; omega
 case rel => exact ⟨(wrap64 (x27_2 + 1)), prs, H', ⟨by have := HK1.1; have := HK2.1; omega⟩, ⟨by (with_reducible repeat (first | apply Kd.R_alloc | apply Kd.R_drewN | apply Kd.R_drew)); exact Kd.R_mono HO_6.1 (fun _ hk => trivial)⟩, ⟨pbk BK264.1⟩, ⟨pbg⟩⟩

/-! ### netclass_Asymmetric: function 24 -/
def netclass_Asymmetric.f (k : Nat) (a0_0 : ByteArray) (l0_1 : List (S46)) (l0_2 : List (S41)) : Option (Bool) := (netclass_pairs_Asymmetric_1.f k a0_0 l0_1 l0_2).bind fun t275 => (some t275)
theorem netclass_Asymmetric.mono : ∀ a0 a1 a2 k, LeO (netclass_Asymmetric.f k a0 a1 a2) (netclass_Asymmetric.f (k + 1) a0 a1 a2) := by
 intro a0 a1 a2 k
 unfold netclass_Asymmetric.f
 repeat' first | (with_reducible first | apply netclass_pairs_Asymmetric_1.mono | apply lr | apply ln | apply li | refine lb ?_ fun _ => ?_)
set_option maxHeartbeats 8000000 in
set_option maxRecDepth 100000 in
theorem netclass_Asymmetric.calls (k : Nat) (a0_0 : ByteArray) (A0_1 : Option Addr) (c0_1 : Nat) (l0_1 : List (S46)) (A0_2 : Option Addr) (c0_2 : Nat) (l0_2 : List (S41)) (r : Bool) (w : World) (hr0_1 : Kd.C k46 w A0_1 l0_1.length l0_1) (hc0_1 : l0_1.length ≤ c0_1) (hr0_2 : Kd.C k41 w A0_2 l0_2.length l0_2) (hc0_2 : l0_2.length ≤ c0_2) (h : netclass_Asymmetric.f k a0_0 l0_1 l0_2 = some r) :
  Calls Try.prog 24 #[.agg #[.string a0_0, .slice A0_1 l0_1.length c0_1, .slice A0_2 l0_2.length c0_2]] w fun e w' => e = .returned (.bool r) ∧ Below w.heap.size w w' := by
 have hu25 := Try.underlying25
 have HR0_1 := am hr0_1
 have HC0_1 := am hc0_1
 clear hr0_1 hc0_1
 have HR0_2 := am hr0_2
 have HC0_2 := am hc0_2
 clear hr0_2 hc0_2
 have HB := am (Below.refl w.heap.size w)
 have H : ((netclass_pairs_Asymmetric_1.f k a0_0 l0_1 l0_2).bind fun t275 => (some t275)) = some r := h
 clear h
 replace H := bnd H
 obtain ⟨t275, A2, H⟩ := H
 (try dsimp only at H)
 obtain rfl := Option.some.inj H
 go_enter Try.func24, Try.ntmps24
 go_wp2_with (first | ((with_reducible refine gate_dst (N := 1) rfl ?_); refine box_ev (N := 1) (cs := #[.string a0_0, .slice A0_1 l0_1.length c0_1, .slice A0_2 l0_2.length c0_2]) (t := 25) ?_; intro gb274 hg w3 hbox hb; have BK274 := am hbox; have GW274 := gwl hg; have GE274 := GW274; replace HB := bsl hb; clear hb hbox hg; have z4 := cf3 BK274.1) | ((with_reducible refine gate_callee (f := 50) rfl ?_); refine gC 4 Try.func50 _ (netclass_pairs_Asymmetric_1.calls k a0_0 _ _ l0_1 _ _ l0_2 t275 _ (csb HR0_1 HB) HC0_1.1 (csb HR0_2 HB) HC0_2.1 A2.1) ?_; rintro e w5 ⟨rfl, hb⟩; refine ⟨_, rfl, ?_⟩; replace BK274 := bbh BK274 hb; replace HB := bst hb; (try clear hb)))
 go_ret
 exact ⟨per, pbg⟩

/-! ### netclass_Words: function 29 -/
-- IMPORTS Derived.RegionTactic,Derived.BigRegion,Derived.Laws.EntriesVeiled
def wordIf (s : ByteArray) (b : Bool) (ns : List ByteArray) : List ByteArray := if b = true then ns ++ [s] else ns
def netclass_Words.f (k : Nat) (a0_0 : ByteArray) (l0_1 : List (S46)) (l0_2 : List (S41)) : Option (List ByteArray) := (netclass_valid.f k a0_0 l0_1 l0_2).bind fun v => if v = true then ((net_Plain.f k a0_0 l0_1 l0_2).bind fun b0 => (net_Ordinary.f k a0_0 l0_1 l0_2).bind fun b1 => (netclass_Pure.f k a0_0 l0_1 l0_2).bind fun b2 => (netclass_Connected.f k a0_0 l0_1 l0_2).bind fun b3 => (netclass_Strong.f k a0_0 l0_1 l0_2).bind fun b4 => (netclass_StateMachine.f k a0_0 l0_1 l0_2).bind fun b5 => (netclass_MarkedGraph.f k a0_0 l0_1 l0_2).bind fun b6 => (netclass_FreeChoice.f k a0_0 l0_1 l0_2).bind fun b7 => (netclass_Asymmetric.f k a0_0 l0_1 l0_2).bind fun b8 => some (wordIf (⟨#[97, 115, 121, 109, 109, 101, 116, 114, 105, 99]⟩ : ByteArray) b8 (wordIf (⟨#[102, 114, 101, 101, 99, 104, 111, 105, 99, 101]⟩ : ByteArray) b7 (wordIf (⟨#[109, 97, 114, 107, 101, 100, 103, 114, 97, 112, 104]⟩ : ByteArray) b6 (wordIf (⟨#[115, 116, 97, 116, 101, 109, 97, 99, 104, 105, 110, 101]⟩ : ByteArray) b5 (wordIf (⟨#[115, 116, 114, 111, 110, 103]⟩ : ByteArray) b4 (wordIf (⟨#[99, 111, 110, 110, 101, 99, 116, 101, 100]⟩ : ByteArray) b3 (wordIf (⟨#[112, 117, 114, 101]⟩ : ByteArray) b2 (wordIf (⟨#[111, 114, 100, 105, 110, 97, 114, 121]⟩ : ByteArray) b1 (wordIf (⟨#[112, 108, 97, 105, 110]⟩ : ByteArray) b0 ([]))))))))))) else some []
theorem netclass_Words.mono : ∀ a0 a1 a2 k, LeO (netclass_Words.f k a0 a1 a2) (netclass_Words.f (k + 1) a0 a1 a2) := by
 intro a0 a1 a2 k
 unfold netclass_Words.f
 exact LeO.bind (netclass_valid.mono _ _ _ _) (fun _ => LeO.ite (LeO.bind (net_Plain.mono _ _ _ _) (fun _ => LeO.bind (net_Ordinary.mono _ _ _ _) (fun _ => LeO.bind (netclass_Pure.mono _ _ _ _) (fun _ => LeO.bind (netclass_Connected.mono _ _ _ _) (fun _ => LeO.bind (netclass_Strong.mono _ _ _ _) (fun _ => LeO.bind (netclass_StateMachine.mono _ _ _ _) (fun _ => LeO.bind (netclass_MarkedGraph.mono _ _ _ _) (fun _ => LeO.bind (netclass_FreeChoice.mono _ _ _ _) (fun _ => LeO.bind (netclass_Asymmetric.mono _ _ _ _) (fun _ => LeO.refl _)))))))))) (LeO.refl _))
/-- The words so far, in a variable of the call's own, and the net in another one. -/
structure WInv (w0 w : World) (Bx Bo : Nat) (net : Array Value) (ns : List ByteArray) : Prop where
 t : ∃ v, w.heap[Bo]? = some (.cells #[v] 34 (0, 0)) ∧ Kd.R Kd.string 9 w w0.heap.size (fun _ => True) v ns
 B : Below w0.heap.size w0 w
 b : w0.heap.size ≤ Bo
 bx : w.heap[Bx]? = some (.cells net 25 (0, 0))
theorem WInv.below {w0 w w1 : World} {Bx Bo : Nat} {net : Array Value} {ns : List ByteArray} (h : WInv w0 w Bx Bo net ns) (hb : Below w.heap.size w w1) : WInv w0 w1 Bx Bo net ns := by
 obtain ⟨⟨v, h1, h2⟩, B, b, bx⟩ := h
 exact ⟨⟨v, blk_below h1 hb, Kd.R_below h2 hb⟩, B.trans (hb.mono B.size), b, blk_below bx hb⟩
theorem WInv.push {w0 w w1 : World} {Bx Bo : Nat} {net : Array Value} {ns ns' : List ByteArray} (h : WInv w0 w Bx Bo net ns) {v v1 : Value} (hT : Kd.R Kd.string 9 w w0.heap.size (fun _ => True) v ns)
  (h1 : Kd.R Kd.string 9 w1 w0.heap.size (fun _ => True) v1 ns') (hb : Below w0.heap.size w0 w1) (hg : w.grownBy w1 v.ownBlock) : WInv w0 (w1.setCell ⟨Bo, 0, none⟩ v1) Bx Bo net ns' ∧ w1.cell? ⟨Bo, 0, none⟩ ≠ none ∧ w1.frozen? ⟨Bo, 0, none⟩ = false := by
 obtain ⟨⟨vt, h3, h4⟩, B, b, bx⟩ := h
 have e3 := grown_blk h3 (Kd.R_typed hT) (by decide) hg
 have eb := grown_blk bx (Kd.R_typed hT) (by decide) hg
 exact ⟨⟨⟨v1, one_setCell e3, Kd.R_set h1 e3 (by decide) _ _⟩, below_set hb b, b, blk_over eb (blk_apart eb e3 (by decide)) _⟩, by rw [cell_of_one e3]; simp, free_of_one e3⟩
set_option maxHeartbeats 1000000 in
set_option maxRecDepth 100000 in
theorem word_add (w0 w : World) (Bx Bo : Nat) (net : Array Value) (ns : List ByteArray) (s : ByteArray) (b : Bool) (h : WInv w0 w Bx Bo net ns) (hl : ns.length < 1000) :
  Calls Try.prog 61 #[.string s, .bool b, .pointer (some ⟨Bo, 0, none⟩)] w fun e w' => e = .returned (.tuple #[]) ∧ WInv w0 w' Bx Bo net (wordIf s b ns) := by
 have HV := Aside0.mk h
 cases b with
 | false =>
  clear h
  go_enter Try.func61, Try.ntmps61
  go_wp2
  go_end0
  exact ⟨rfl, HV.out⟩
 | true =>
  obtain ⟨vt, ht1, ht2⟩ := h.t
  obtain ⟨At, ct, rfl⟩ := Kd.R_slice ht2
  have ct1 := cell_of_one ht1
  have HT := Aside0.mk ht2
  have HL := Aside0.mk hl
  clear h ht1 ht2 hl
  go_enter Try.func61, Try.ntmps61
  go_wp2_with (first
   | ((with_reducible refine gate_builtin (b := .append) (xs := #[.tmp 6, .tmp 8]) rfl ?_); at_builtin; refine Kd.R_append Kd.string (w0 := w0) w0.heap.size rfl (.tmp 6) (.tmp 8) 34 9 (.string ⟨#[]⟩) 16 rfl Try.underlying34 info9 rfl (by decide) (by omega) (.slice At ns.length ct) ns s [.string s] (fun _ => True) (fun _ => False) rfl rfl ?aP (fun _ hk => hk.elim) ?aF ?aO ?aB ?aS ?aL ?_; (case aP => exact rfl); (case aF => exact (fun _ _ => trivial)); (case aO => exact HT.out); (case aB => exact HV.out.B); (case aS => exact HV.out.B.size); (case aL => have := HL.out; omega); intro v2 w2 ho hb hg hat; obtain ⟨A2, k2, rfl⟩ := Kd.R_slice ho; have HX := Aside0.mk (WInv.push HV.out HT.out ho hb hg); obtain ⟨c2, hc2⟩ := Option.ne_none_iff_exists'.mp HX.out.2.1; have hf2 := HX.out.2.2; clear ho hb hg hat))
  go_end0
  have x_ := HX.out.1
  rw [List.length_append] at x_
  exact ⟨rfl, x_⟩
theorem wordIf_len (s : ByteArray) (b : Bool) (ns : List ByteArray) : (wordIf s b ns).length ≤ ns.length + 1 := by unfold wordIf; split <;> simp
set_option maxHeartbeats 8000000 in
set_option maxRecDepth 100000 in
theorem netclass_Words.calls (k : Nat) (a0_0 : ByteArray) (A0_1 : Option Addr) (c0_1 : Nat) (l0_1 : List (S46)) (A0_2 : Option Addr) (c0_2 : Nat) (l0_2 : List (S41)) (r : List ByteArray) (w : World) (hr0_1 : Kd.C k46 w A0_1 l0_1.length l0_1) (hc0_1 : l0_1.length ≤ c0_1) (hr0_2 : Kd.C k41 w A0_2 l0_2.length l0_2) (hc0_2 : l0_2.length ≤ c0_2) (h : netclass_Words.f k a0_0 l0_1 l0_2 = some r) :
  Calls Try.prog 29 #[.agg #[.string a0_0, .slice A0_1 l0_1.length c0_1, .slice A0_2 l0_2.length c0_2]] w fun e w' => ∃ v0_ : Value, e = .returned (v0_) ∧ Kd.R Kd.string 9 w' w.heap.size (fun _ => True) v0_ r ∧ Below w.heap.size w w' := by
 have hu1 := Try.underlying25
 have hmf : ∀ (fn : Fn) (first cap : Array Value) (w : World), (Instr.makeFunc fn first cap).run Try.prog w = .ok (.func fn first cap) w := fun _ _ _ _ => rfl
 have HR1 := Aside0.mk hr0_1
 have HC1 := Aside0.mk hc0_1
 have HR2 := Aside0.mk hr0_2
 have HC2 := Aside0.mk hc0_2
 unfold netclass_Words.f at h
 obtain ⟨v, hv, h⟩ := Option.bind_eq_some_iff.mp h
 have HV := Aside0.mk hv
 clear hr0_1 hc0_1 hr0_2 hc0_2 hv
 obtain ⟨w2, hw2⟩ : ∃ w2 : World, w2 = w.alloc (.cells #[.string a0_0, .slice A0_1 l0_1.length c0_1, .slice A0_2 l0_2.length c0_2] 25) := ⟨_, rfl⟩
 have XA := Aside0.mk (show w2.heap[w.heap.size]? = some (.cells #[.string a0_0, .slice A0_1 l0_1.length c0_1, .slice A0_2 l0_2.length c0_2] 25 (0, 0)) by rw [hw2]; exact alloc_new _ _)
 have HB := Aside0.mk (show Below w.heap.size w w2 by rw [hw2]; exact below_alloc (Below.refl _ _) _)
 have HW := Aside0.mk hw2
 clear hw2
 cases v with
 | false =>
  rw [if_neg Bool.false_ne_true] at h
  obtain rfl := Option.some.inj h
  clear h
  go_enter Try.func29, Try.ntmps29
  go_wp2_with (first | (go_at_call 37; rw [← HW.out]; refine (netclass_valid.calls k _ _ _ _ _ _ _ _ _ (Kd.C_below HR1.out HB.out) HC1.out (Kd.C_below HR2.out HB.out) HC2.out HV.out).mono ?_; rintro e w3 ⟨rfl, hb⟩; have HB3 := Aside0.mk (HB.out.trans (hb.mono HB.out.size)); have XB := Aside0.mk (blk_below XA.out hb); clear hb))
  go_ret
  exact ⟨_, rfl, Kd.R_nil _ _ _ _ _, HB3.out⟩
 | true =>
  rw [if_pos rfl] at h
  obtain ⟨b0, h0, h⟩ := Option.bind_eq_some_iff.mp h
  have H0 := Aside0.mk h0
  clear h0
  obtain ⟨b1, h1, h⟩ := Option.bind_eq_some_iff.mp h
  have H1 := Aside0.mk h1
  clear h1
  obtain ⟨b2, h2, h⟩ := Option.bind_eq_some_iff.mp h
  have H2 := Aside0.mk h2
  clear h2
  obtain ⟨b3, h3, h⟩ := Option.bind_eq_some_iff.mp h
  have H3 := Aside0.mk h3
  clear h3
  obtain ⟨b4, h4, h⟩ := Option.bind_eq_some_iff.mp h
  have H4 := Aside0.mk h4
  clear h4
  obtain ⟨b5, h5, h⟩ := Option.bind_eq_some_iff.mp h
  have H5 := Aside0.mk h5
  clear h5
  obtain ⟨b6, h6, h⟩ := Option.bind_eq_some_iff.mp h
  have H6 := Aside0.mk h6
  clear h6
  obtain ⟨b7, h7, h⟩ := Option.bind_eq_some_iff.mp h
  have H7 := Aside0.mk h7
  clear h7
  obtain ⟨b8, h8, h⟩ := Option.bind_eq_some_iff.mp h
  have H8 := Aside0.mk h8
  clear h8
  have L0 := Aside0.mk (show (([] : List ByteArray)).length ≤ 0 from Nat.le_refl 0)
  have L1 := Aside0.mk (show (wordIf (⟨#[112, 108, 97, 105, 110]⟩ : ByteArray) b0 (([] : List ByteArray))).length ≤ 1 from Nat.le_trans (wordIf_len _ _ _) (Nat.succ_le_succ L0.out))
  have L2 := Aside0.mk (show (wordIf (⟨#[111, 114, 100, 105, 110, 97, 114, 121]⟩ : ByteArray) b1 (wordIf (⟨#[112, 108, 97, 105, 110]⟩ : ByteArray) b0 (([] : List ByteArray)))).length ≤ 2 from Nat.le_trans (wordIf_len _ _ _) (Nat.succ_le_succ L1.out))
  have L3 := Aside0.mk (show (wordIf (⟨#[112, 117, 114, 101]⟩ : ByteArray) b2 (wordIf (⟨#[111, 114, 100, 105, 110, 97, 114, 121]⟩ : ByteArray) b1 (wordIf (⟨#[112, 108, 97, 105, 110]⟩ : ByteArray) b0 (([] : List ByteArray))))).length ≤ 3 from Nat.le_trans (wordIf_len _ _ _) (Nat.succ_le_succ L2.out))
  have L4 := Aside0.mk (show (wordIf (⟨#[99, 111, 110, 110, 101, 99, 116, 101, 100]⟩ : ByteArray) b3 (wordIf (⟨#[112, 117, 114, 101]⟩ : ByteArray) b2 (wordIf (⟨#[111, 114, 100, 105, 110, 97, 114, 121]⟩ : ByteArray) b1 (wordIf (⟨#[112, 108, 97, 105, 110]⟩ : ByteArray) b0 (([] : List ByteArray)))))).length ≤ 4 from Nat.le_trans (wordIf_len _ _ _) (Nat.succ_le_succ L3.out))
  have L5 := Aside0.mk (show (wordIf (⟨#[115, 116, 114, 111, 110, 103]⟩ : ByteArray) b4 (wordIf (⟨#[99, 111, 110, 110, 101, 99, 116, 101, 100]⟩ : ByteArray) b3 (wordIf (⟨#[112, 117, 114, 101]⟩ : ByteArray) b2 (wordIf (⟨#[111, 114, 100, 105, 110, 97, 114, 121]⟩ : ByteArray) b1 (wordIf (⟨#[112, 108, 97, 105, 110]⟩ : ByteArray) b0 (([] : List ByteArray))))))).length ≤ 5 from Nat.le_trans (wordIf_len _ _ _) (Nat.succ_le_succ L4.out))
  have L6 := Aside0.mk (show (wordIf (⟨#[115, 116, 97, 116, 101, 109, 97, 99, 104, 105, 110, 101]⟩ : ByteArray) b5 (wordIf (⟨#[115, 116, 114, 111, 110, 103]⟩ : ByteArray) b4 (wordIf (⟨#[99, 111, 110, 110, 101, 99, 116, 101, 100]⟩ : ByteArray) b3 (wordIf (⟨#[112, 117, 114, 101]⟩ : ByteArray) b2 (wordIf (⟨#[111, 114, 100, 105, 110, 97, 114, 121]⟩ : ByteArray) b1 (wordIf (⟨#[112, 108, 97, 105, 110]⟩ : ByteArray) b0 (([] : List ByteArray)))))))).length ≤ 6 from Nat.le_trans (wordIf_len _ _ _) (Nat.succ_le_succ L5.out))
  have L7 := Aside0.mk (show (wordIf (⟨#[109, 97, 114, 107, 101, 100, 103, 114, 97, 112, 104]⟩ : ByteArray) b6 (wordIf (⟨#[115, 116, 97, 116, 101, 109, 97, 99, 104, 105, 110, 101]⟩ : ByteArray) b5 (wordIf (⟨#[115, 116, 114, 111, 110, 103]⟩ : ByteArray) b4 (wordIf (⟨#[99, 111, 110, 110, 101, 99, 116, 101, 100]⟩ : ByteArray) b3 (wordIf (⟨#[112, 117, 114, 101]⟩ : ByteArray) b2 (wordIf (⟨#[111, 114, 100, 105, 110, 97, 114, 121]⟩ : ByteArray) b1 (wordIf (⟨#[112, 108, 97, 105, 110]⟩ : ByteArray) b0 (([] : List ByteArray))))))))).length ≤ 7 from Nat.le_trans (wordIf_len _ _ _) (Nat.succ_le_succ L6.out))
  have L8 := Aside0.mk (show (wordIf (⟨#[102, 114, 101, 101, 99, 104, 111, 105, 99, 101]⟩ : ByteArray) b7 (wordIf (⟨#[109, 97, 114, 107, 101, 100, 103, 114, 97, 112, 104]⟩ : ByteArray) b6 (wordIf (⟨#[115, 116, 97, 116, 101, 109, 97, 99, 104, 105, 110, 101]⟩ : ByteArray) b5 (wordIf (⟨#[115, 116, 114, 111, 110, 103]⟩ : ByteArray) b4 (wordIf (⟨#[99, 111, 110, 110, 101, 99, 116, 101, 100]⟩ : ByteArray) b3 (wordIf (⟨#[112, 117, 114, 101]⟩ : ByteArray) b2 (wordIf (⟨#[111, 114, 100, 105, 110, 97, 114, 121]⟩ : ByteArray) b1 (wordIf (⟨#[112, 108, 97, 105, 110]⟩ : ByteArray) b0 (([] : List ByteArray)))))))))).length ≤ 8 from Nat.le_trans (wordIf_len _ _ _) (Nat.succ_le_succ L7.out))
  have HE := Aside0.mk (Option.some.inj h)
  clear h
  go_enter Try.func29, Try.ntmps29
  go_wp2_with (first
   | (go_at_call 37; rw [← HW.out]; refine (netclass_valid.calls k _ _ _ _ _ _ _ _ _ (Kd.C_below HR1.out HB.out) HC1.out (Kd.C_below HR2.out HB.out) HC2.out HV.out).mono ?_; rintro e w3 ⟨rfl, hb⟩; have HB3 := Aside0.mk (HB.out.trans (hb.mono HB.out.size)); have XB := Aside0.mk (blk_below XA.out hb); clear hb; obtain ⟨cx0, cx1, cx2, _, _, _⟩ := cf3 (blk_below XB.out (below_alloc (Below.refl _ _) (.cells #[.slice none 0 0] 34))); have HX := Aside0.mk (show WInv w (w3.alloc (.cells #[.slice none 0 0] 34)) w.heap.size w3.heap.size #[.string a0_0, .slice A0_1 l0_1.length c0_1, .slice A0_2 l0_2.length c0_2] [] from ⟨⟨.slice none 0 0, alloc_new _ _, Kd.R_nil _ _ _ _ _⟩, below_alloc HB3.out _, HB3.out.size, blk_below XB.out (below_alloc (Below.refl _ _) _)⟩))
   | (go_at_call 62; refine (net_Plain.calls k _ _ _ _ _ _ _ _ _ (Kd.C_below HR1.out HX.out.B) HC1.out (Kd.C_below HR2.out HX.out.B) HC2.out H0.out).mono ?_; rintro e w4 ⟨rfl, hb⟩; replace HX := Aside0.mk (HX.out.below hb); clear hb; obtain ⟨cx0, cx1, cx2, _, _, _⟩ := cf3 HX.out.bx)
   | (go_at_call 63; refine (net_Ordinary.calls k _ _ _ _ _ _ _ _ _ (Kd.C_below HR1.out HX.out.B) HC1.out (Kd.C_below HR2.out HX.out.B) HC2.out H1.out).mono ?_; rintro e w4 ⟨rfl, hb⟩; replace HX := Aside0.mk (HX.out.below hb); clear hb; obtain ⟨cx0, cx1, cx2, _, _, _⟩ := cf3 HX.out.bx)
   | (go_at_call 26; refine (netclass_Pure.calls k _ _ _ _ _ _ _ _ _ (Kd.C_below HR1.out HX.out.B) HC1.out (Kd.C_below HR2.out HX.out.B) HC2.out H2.out).mono ?_; rintro e w4 ⟨rfl, hb⟩; replace HX := Aside0.mk (HX.out.below hb); clear hb; obtain ⟨cx0, cx1, cx2, _, _, _⟩ := cf3 HX.out.bx)
   | (go_at_call 14; refine (netclass_Connected.calls k _ _ _ _ _ _ _ _ _ (Kd.C_below HR1.out HX.out.B) HC1.out (Kd.C_below HR2.out HX.out.B) HC2.out H3.out).mono ?_; rintro e w4 ⟨rfl, hb⟩; replace HX := Aside0.mk (HX.out.below hb); clear hb; obtain ⟨cx0, cx1, cx2, _, _, _⟩ := cf3 HX.out.bx)
   | (go_at_call 16; refine (netclass_Strong.calls k _ _ _ _ _ _ _ _ _ (Kd.C_below HR1.out HX.out.B) HC1.out (Kd.C_below HR2.out HX.out.B) HC2.out H4.out).mono ?_; rintro e w4 ⟨rfl, hb⟩; replace HX := Aside0.mk (HX.out.below hb); clear hb; obtain ⟨cx0, cx1, cx2, _, _, _⟩ := cf3 HX.out.bx)
   | (go_at_call 18; refine (netclass_StateMachine.calls k _ _ _ _ _ _ _ _ _ (Kd.C_below HR1.out HX.out.B) HC1.out (Kd.C_below HR2.out HX.out.B) HC2.out H5.out).mono ?_; rintro e w4 ⟨rfl, hb⟩; replace HX := Aside0.mk (HX.out.below hb); clear hb; obtain ⟨cx0, cx1, cx2, _, _, _⟩ := cf3 HX.out.bx)
   | (go_at_call 20; refine (netclass_MarkedGraph.calls k _ _ _ _ _ _ _ _ _ (Kd.C_below HR1.out HX.out.B) HC1.out (Kd.C_below HR2.out HX.out.B) HC2.out H6.out).mono ?_; rintro e w4 ⟨rfl, hb⟩; replace HX := Aside0.mk (HX.out.below hb); clear hb; obtain ⟨cx0, cx1, cx2, _, _, _⟩ := cf3 HX.out.bx)
   | (go_at_call 22; refine (netclass_FreeChoice.calls k _ _ _ _ _ _ _ _ _ (Kd.C_below HR1.out HX.out.B) HC1.out (Kd.C_below HR2.out HX.out.B) HC2.out H7.out).mono ?_; rintro e w4 ⟨rfl, hb⟩; replace HX := Aside0.mk (HX.out.below hb); clear hb; obtain ⟨cx0, cx1, cx2, _, _, _⟩ := cf3 HX.out.bx)
   | (go_at_call 24; refine (netclass_Asymmetric.calls k _ _ _ _ _ _ _ _ _ (Kd.C_below HR1.out HX.out.B) HC1.out (Kd.C_below HR2.out HX.out.B) HC2.out H8.out).mono ?_; rintro e w4 ⟨rfl, hb⟩; replace HX := Aside0.mk (HX.out.below hb); clear hb; obtain ⟨cx0, cx1, cx2, _, _, _⟩ := cf3 HX.out.bx)
   | (go_at_call 61; refine (word_add w _ _ _ _ _ _ _ HX.out ?lm).mono ?_; (case lm => first | exact Nat.lt_of_le_of_lt L0.out (by decide) | exact Nat.lt_of_le_of_lt L1.out (by decide) | exact Nat.lt_of_le_of_lt L2.out (by decide) | exact Nat.lt_of_le_of_lt L3.out (by decide) | exact Nat.lt_of_le_of_lt L4.out (by decide) | exact Nat.lt_of_le_of_lt L5.out (by decide) | exact Nat.lt_of_le_of_lt L6.out (by decide) | exact Nat.lt_of_le_of_lt L7.out (by decide) | exact Nat.lt_of_le_of_lt L8.out (by decide)); rintro e w4 ⟨rfl, hx⟩; replace HX := Aside0.mk hx; clear hx; obtain ⟨cx0, cx1, cx2, _, _, _⟩ := cf3 HX.out.bx; obtain ⟨vt, ht1, ht2⟩ := HX.out.t; have ct1 := cell_of_one ht1; have HT := Aside0.mk ht2; clear ht1 ht2))
  go_ret
  refine ⟨_, rfl, ?_, HX.out.B⟩
  rw [← HE.out]
  exact HT.out

/-! ### petrinetlaw13_alive: function 10 -/
def petrinetlaw13_alive.f (k : Nat)  : Option (Bool) := (petrinetlaw13_ring.f).bind fun bt289 => ((netclass_Words.f k bt289.1 bt289.2.1 bt289.2.2).bind fun t296 => ((r48_Same.f k t296 (([(⟨#[112, 108, 97, 105, 110]⟩ : ByteArray), (⟨#[111, 114, 100, 105, 110, 97, 114, 121]⟩ : ByteArray), (⟨#[99, 111, 110, 110, 101, 99, 116, 101, 100]⟩ : ByteArray), (⟨#[115, 116, 114, 111, 110, 103]⟩ : ByteArray), (⟨#[115, 116, 97, 116, 101, 109, 97, 99, 104, 105, 110, 101]⟩ : ByteArray), (⟨#[109, 97, 114, 107, 101, 100, 103, 114, 97, 112, 104]⟩ : ByteArray), (⟨#[102, 114, 101, 101, 99, 104, 111, 105, 99, 101]⟩ : ByteArray), (⟨#[97, 115, 121, 109, 109, 101, 116, 114, 105, 99]⟩ : ByteArray)] : List ByteArray))).bind fun t302 => (if t302 = true then ((petrinetlaw13_ring.f).bind fun bt303 => ((netclass_Connected.f k bt303.1 bt303.2.1 bt303.2.2).bind fun t310 => (if t310 = true then ((petrinetlaw13_ring.f).bind fun bt311 => ((netclass_Pure.f k bt311.1 bt311.2.1 bt311.2.2).bind fun t318 => (some (!t318)))) else (none)))) else (none))))
theorem petrinetlaw13_alive.mono : ∀ k, LeO (petrinetlaw13_alive.f k ) (petrinetlaw13_alive.f (k + 1) ) := by
 intro  k
 unfold petrinetlaw13_alive.f
 repeat' first | (with_reducible first | apply netclass_Connected.mono | apply netclass_Pure.mono | apply netclass_Words.mono | apply r48_Same.mono | apply lr | apply ln | apply li | refine lb ?_ fun _ => ?_)
set_option maxHeartbeats 8000000 in
set_option maxRecDepth 100000 in
theorem petrinetlaw13_alive.calls (k : Nat)  (r : Bool) (w : World) (h : petrinetlaw13_alive.f k  = some r) :
  Calls Try.prog 10 #[] w fun e w' => e = .returned (.bool r) ∧ Below w.heap.size w w' := by
 have HB := am (Below.refl w.heap.size w)
 have H : ((petrinetlaw13_ring.f).bind fun bt289 => ((netclass_Words.f k bt289.1 bt289.2.1 bt289.2.2).bind fun t296 => ((r48_Same.f k t296 (([(⟨#[112, 108, 97, 105, 110]⟩ : ByteArray), (⟨#[111, 114, 100, 105, 110, 97, 114, 121]⟩ : ByteArray), (⟨#[99, 111, 110, 110, 101, 99, 116, 101, 100]⟩ : ByteArray), (⟨#[115, 116, 114, 111, 110, 103]⟩ : ByteArray), (⟨#[115, 116, 97, 116, 101, 109, 97, 99, 104, 105, 110, 101]⟩ : ByteArray), (⟨#[109, 97, 114, 107, 101, 100, 103, 114, 97, 112, 104]⟩ : ByteArray), (⟨#[102, 114, 101, 101, 99, 104, 111, 105, 99, 101]⟩ : ByteArray), (⟨#[97, 115, 121, 109, 109, 101, 116, 114, 105, 99]⟩ : ByteArray)] : List ByteArray))).bind fun t302 => (if t302 = true then ((petrinetlaw13_ring.f).bind fun bt303 => ((netclass_Connected.f k bt303.1 bt303.2.1 bt303.2.2).bind fun t310 => (if t310 = true then ((petrinetlaw13_ring.f).bind fun bt311 => ((netclass_Pure.f k bt311.1 bt311.2.1 bt311.2.2).bind fun t318 => (some (!t318)))) else (none)))) else (none))))) = some r := h
 clear h
 replace H := bnd H
 obtain ⟨⟨t289, t290, t293⟩, A1, H⟩ := H
 (try dsimp only at H)
 replace H := bnd H
 obtain ⟨t296, A2, H⟩ := H
 (try dsimp only at H)
 obtain ⟨y299, hy299⟩ : ∃ y_ : List ByteArray, y_ = (([(⟨#[112, 108, 97, 105, 110]⟩ : ByteArray), (⟨#[111, 114, 100, 105, 110, 97, 114, 121]⟩ : ByteArray), (⟨#[99, 111, 110, 110, 101, 99, 116, 101, 100]⟩ : ByteArray), (⟨#[115, 116, 114, 111, 110, 103]⟩ : ByteArray), (⟨#[115, 116, 97, 116, 101, 109, 97, 99, 104, 105, 110, 101]⟩ : ByteArray), (⟨#[109, 97, 114, 107, 101, 100, 103, 114, 97, 112, 104]⟩ : ByteArray), (⟨#[102, 114, 101, 101, 99, 104, 111, 105, 99, 101]⟩ : ByteArray), (⟨#[97, 115, 121, 109, 109, 101, 116, 114, 105, 99]⟩ : ByteArray)] : List ByteArray)) := ⟨_, rfl⟩
 replace H : ((r48_Same.f k t296 y299).bind fun t302 => (if t302 = true then ((petrinetlaw13_ring.f).bind fun bt303 => ((netclass_Connected.f k bt303.1 bt303.2.1 bt303.2.2).bind fun t310 => (if t310 = true then ((petrinetlaw13_ring.f).bind fun bt311 => ((netclass_Pure.f k bt311.1 bt311.2.1 bt311.2.2).bind fun t318 => (some (!t318)))) else (none)))) else (none))) = some r := hrp hy299 H
 have Ny299 := am hy299
 clear hy299
 replace H := bnd H
 obtain ⟨t302, A3, H⟩ := H
 (try dsimp only at H)
 by_cases c4 : t302 = true
 rotate_left
 ·replace c4 := Bool.eq_false_iff.mpr c4
  subst c4
  rw [if_neg Bool.false_ne_true] at H
  exact absurd H (by simp)
 subst c4
 rw [if_pos rfl] at H
 replace H := bnd H
 obtain ⟨⟨t303, t304, t307⟩, A5, H⟩ := H
 (try dsimp only at H)
 replace H := bnd H
 obtain ⟨t310, A6, H⟩ := H
 (try dsimp only at H)
 by_cases c7 : t310 = true
 rotate_left
 ·replace c7 := Bool.eq_false_iff.mpr c7
  subst c7
  rw [if_neg Bool.false_ne_true] at H
  exact absurd H (by simp)
 subst c7
 rw [if_pos rfl] at H
 replace H := bnd H
 obtain ⟨⟨t311, t312, t315⟩, A8, H⟩ := H
 (try dsimp only at H)
 replace H := bnd H
 obtain ⟨t318, A9, H⟩ := H
 (try dsimp only at H)
 obtain rfl := Option.some.inj H
 go_enter Try.func10, Try.ntmps10
 have tk0_ := am True.intro
 have tk1_ := am True.intro
 go_wp2_with (first | ((with_reducible refine gate_callee (f := 36) rfl ?_); refine gC 2 Try.func36 _ (petrinetlaw13_ring.calls  t289 t290 t293 _ A1.1) ?_; rintro e w10 ⟨v291, v294, rfl, ho0, ho1, hb⟩; refine ⟨_, rfl, ?_⟩; have HO292 := am (Kd.R_lower (Kd.R_mono (ok' := fun k_ => True) ho0 (fun _ hk_ => trivial)) (below_size pbl)); have HO295 := am (Kd.N_lower (Kd.N_mono (ok' := fun k_ => some k_ ≠ (v291 : Value).ownBlock) ho1 (fun k_ hk_ => hk_.2)) (below_size pbl)); replace HB := bsl hb; (try clear hb); (try clear ho0); (try clear ho1); obtain ⟨Ao11, co11, eo11⟩ := Kd.R_slice HO292.1; subst eo11; obtain ⟨Ao12, co12, eo12⟩ := Kd.N_slice HO295.1; subst eo12) | ((with_reducible refine gate_callee (f := 29) rfl ?_); refine gC 3 Try.func29 _ (netclass_Words.calls k t289 _ _ t290 _ _ t293 t296 _ (csd ((Kd.R_reads' HO292.1).2.2)) ((Kd.R_reads' HO292.1).2.1) (csd ((Kd.N_reads' HO295.1).2.2)) ((Kd.N_reads' HO295.1).2.1) A2.1) ?_; rintro e w13 ⟨v297, rfl, ho0, hb⟩; refine ⟨_, rfl, ?_⟩; have HO298 := am (Kd.R_lower ho0 (below_size pbl)); replace HO292 := rbw HO292 hb; replace HO295 := am (Kd.N_elder' (pkn HO295.1) (Kd.R_base ho0) hb); replace HB := bsl hb; (try clear hb); (try clear ho0)) | ((with_reducible refine gate_dst (N := 5) rfl ?_); refine Kd.R_lit Kd.string _ 9 ?hg (N := 5) ?hd (xs := ([(⟨#[112, 108, 97, 105, 110]⟩ : ByteArray), (⟨#[111, 114, 100, 105, 110, 97, 114, 121]⟩ : ByteArray), (⟨#[99, 111, 110, 110, 101, 99, 116, 101, 100]⟩ : ByteArray), (⟨#[115, 116, 114, 111, 110, 103]⟩ : ByteArray), (⟨#[115, 116, 97, 116, 101, 109, 97, 99, 104, 105, 110, 101]⟩ : ByteArray), (⟨#[109, 97, 114, 107, 101, 100, 103, 114, 97, 112, 104]⟩ : ByteArray), (⟨#[102, 114, 101, 101, 99, 104, 111, 105, 99, 101]⟩ : ByteArray), (⟨#[97, 115, 121, 109, 109, 101, 116, 114, 105, 99]⟩ : ByteArray)] : List ByteArray)) (inner := [.string (⟨#[112, 108, 97, 105, 110]⟩ : ByteArray), .string (⟨#[111, 114, 100, 105, 110, 97, 114, 121]⟩ : ByteArray), .string (⟨#[99, 111, 110, 110, 101, 99, 116, 101, 100]⟩ : ByteArray), .string (⟨#[115, 116, 114, 111, 110, 103]⟩ : ByteArray), .string (⟨#[115, 116, 97, 116, 101, 109, 97, 99, 104, 105, 110, 101]⟩ : ByteArray), .string (⟨#[109, 97, 114, 107, 101, 100, 103, 114, 97, 112, 104]⟩ : ByteArray), .string (⟨#[102, 114, 101, 101, 99, 104, 111, 105, 99, 101]⟩ : ByteArray), .string (⟨#[97, 115, 121, 109, 109, 101, 116, 114, 105, 99]⟩ : ByteArray)]) (ok := fun _ => True) (okp := fun _ => True) ?hr ?hp (fun _ hk => hk) trivial (Below.refl _ _) (Nat.le_refl _) (by simp) ?_; (case hd => rfl); (case hg => rfl); (case hr => first | (go_simp; done) | (go_simp; rfl)); (case hp => exact (Reps.one (show Kd.M Kd.string _ _ _ (⟨#[112, 108, 97, 105, 110]⟩ : ByteArray) [.string (⟨#[112, 108, 97, 105, 110]⟩ : ByteArray)] from rfl) (Reps.one (show Kd.M Kd.string _ _ _ (⟨#[111, 114, 100, 105, 110, 97, 114, 121]⟩ : ByteArray) [.string (⟨#[111, 114, 100, 105, 110, 97, 114, 121]⟩ : ByteArray)] from rfl) (Reps.one (show Kd.M Kd.string _ _ _ (⟨#[99, 111, 110, 110, 101, 99, 116, 101, 100]⟩ : ByteArray) [.string (⟨#[99, 111, 110, 110, 101, 99, 116, 101, 100]⟩ : ByteArray)] from rfl) (Reps.one (show Kd.M Kd.string _ _ _ (⟨#[115, 116, 114, 111, 110, 103]⟩ : ByteArray) [.string (⟨#[115, 116, 114, 111, 110, 103]⟩ : ByteArray)] from rfl) (Reps.one (show Kd.M Kd.string _ _ _ (⟨#[115, 116, 97, 116, 101, 109, 97, 99, 104, 105, 110, 101]⟩ : ByteArray) [.string (⟨#[115, 116, 97, 116, 101, 109, 97, 99, 104, 105, 110, 101]⟩ : ByteArray)] from rfl) (Reps.one (show Kd.M Kd.string _ _ _ (⟨#[109, 97, 114, 107, 101, 100, 103, 114, 97, 112, 104]⟩ : ByteArray) [.string (⟨#[109, 97, 114, 107, 101, 100, 103, 114, 97, 112, 104]⟩ : ByteArray)] from rfl) (Reps.one (show Kd.M Kd.string _ _ _ (⟨#[102, 114, 101, 101, 99, 104, 111, 105, 99, 101]⟩ : ByteArray) [.string (⟨#[102, 114, 101, 101, 99, 104, 111, 105, 99, 101]⟩ : ByteArray)] from rfl) (Reps.one (show Kd.M Kd.string _ _ _ (⟨#[97, 115, 121, 109, 109, 101, 116, 114, 105, 99]⟩ : ByteArray) [.string (⟨#[97, 115, 121, 109, 109, 101, 116, 114, 105, 99]⟩ : ByteArray)] from rfl) (Reps.none _ _)))))))))); intro v300 w14 ho15 hb hg_ hnew_; clear hg_ hnew_; (first | rw [← Ny299.1] at ho15 | (simp only [Int.reduceToNat] at ho15; rw [← Ny299.1] at ho15)); have HO301 := am (Kd.R_lower (Kd.R_new' ho15 (Kd.R_lt (pkr HO298.1))) (below_size pbl)); replace HO292 := rbw HO292 hb; replace HO295 := am (Kd.N_elder' (pkn HO295.1) (Kd.R_base ho15) hb); replace HO298 := am (Kd.R_elder' (pkr HO298.1) (Kd.R_base ho15) hb); replace HB := bsl hb; clear hb ho15; obtain ⟨Ao16, co16, eo16⟩ := Kd.R_slice HO298.1; subst eo16; obtain ⟨Ao17, co17, eo17⟩ := Kd.R_slice HO301.1; subst eo17) | ((with_reducible refine gate_callee (f := 28) rfl ?_); refine gC 6 Try.func28 _ (r48_Same.calls k _ _ t296 _ _ y299 true _ (csd ((Kd.R_reads' HO298.1).2.2)) ((Kd.R_reads' HO298.1).2.1) (csd ((Kd.R_reads' HO301.1).2.2)) ((Kd.R_reads' HO301.1).2.1) A3.1) ?_; rintro e w' ⟨rfl, ⟨nd, rfl⟩⟩; refine ⟨_, rfl, ?_⟩) | (go_at_call 36; have _t := tk0_; (with_reducible refine (petrinetlaw13_ring.calls  t303 t304 t307 _ A5.1).mono ?_); rintro e w18 ⟨v305, v308, rfl, ho0, ho1, hb⟩; have HO306 := am (Kd.R_lower (Kd.R_new' (Kd.R_mono (ok' := fun k_ => True) ho0 (fun _ hk_ => trivial)) (Kd.R_lt (pkr HO292.1))) (below_size pbl)); have HO309 := am (Kd.N_lower (Kd.N_mono (ok' := fun k_ => some k_ ≠ (v305 : Value).ownBlock ∧ some k_ ≠ (.slice Ao11 t290.length co11 : Value).ownBlock ∧ some k_ ≠ (.slice Ao12 t293.length co12 : Value).ownBlock ∧ some k_ ≠ (.slice Ao16 t296.length co16 : Value).ownBlock ∧ some k_ ≠ (.slice Ao17 y299.length co17 : Value).ownBlock) ho1 (fun k_ hk_ => ⟨hk_.2, (Kd.fresh' (Kd.R_lt (pkr HO292.1)) k_ hk_.1), (Kd.fresh' (Kd.N_lt (pkn HO295.1)) k_ hk_.1), (Kd.fresh' (Kd.R_lt (pkr HO298.1)) k_ hk_.1), (Kd.fresh' (Kd.R_lt (pkr HO301.1)) k_ hk_.1)⟩)) (below_size pbl)); replace HO292 := am (Kd.R_elder' (pkr HO292.1) (Kd.R_base ho0) hb); replace HO295 := am (Kd.N_mono (Kd.N_told (Kd.N_told (Kd.N_old (pkn HO295.1) hb) (Kd.R_base ho0)) (Kd.N_base ho1)) (fun _ h_ => h_.1)); replace HO298 := rbw HO298 hb; replace HO301 := rbw HO301 hb; replace HB := bsl hb; (try clear hb); (try clear ho0); (try clear ho1); obtain ⟨Ao19, co19, eo19⟩ := Kd.R_slice HO306.1; subst eo19; obtain ⟨Ao20, co20, eo20⟩ := Kd.N_slice HO309.1; subst eo20; clear tk0_ _t) | (go_at_call 14; (with_reducible refine (netclass_Connected.calls k t303 _ _ t304 _ _ t307 true _ ?side1 ?side2 ?side3 ?side4 A6.1).mono ?_); (case side1 => exact csd ((Kd.R_reads' HO306.1).2.2)); (case side2 => exact (Kd.R_reads' HO306.1).2.1); (case side3 => exact csd ((Kd.N_reads' HO309.1).2.2)); (case side4 => exact (Kd.N_reads' HO309.1).2.1); rintro e w21 ⟨rfl, hb⟩; replace HO292 := rbw HO292 hb; replace HO295 := nbw HO295 hb; replace HO298 := rbw HO298 hb; replace HO301 := rbw HO301 hb; replace HO306 := rbw HO306 hb; replace HO309 := nbw HO309 hb; replace HB := bsl hb; (try clear hb)) | (go_at_call 36; have _t := tk1_; (with_reducible refine (petrinetlaw13_ring.calls  t311 t312 t315 _ A8.1).mono ?_); rintro e w22 ⟨v313, v316, rfl, ho0, ho1, hb⟩; have HO314 := am (Kd.R_lower (Kd.R_new' (Kd.R_new' (Kd.R_mono (ok' := fun k_ => True) ho0 (fun _ hk_ => trivial)) (Kd.R_lt (pkr HO292.1))) (Kd.R_lt (pkr HO306.1))) (below_size pbl)); have HO317 := am (Kd.N_lower (Kd.N_mono (ok' := fun k_ => some k_ ≠ (v313 : Value).ownBlock ∧ some k_ ≠ (.slice Ao11 t290.length co11 : Value).ownBlock ∧ some k_ ≠ (.slice Ao12 t293.length co12 : Value).ownBlock ∧ some k_ ≠ (.slice Ao16 t296.length co16 : Value).ownBlock ∧ some k_ ≠ (.slice Ao17 y299.length co17 : Value).ownBlock ∧ some k_ ≠ (.slice Ao19 t304.length co19 : Value).ownBlock ∧ some k_ ≠ (.slice Ao20 t307.length co20 : Value).ownBlock) ho1 (fun k_ hk_ => ⟨hk_.2, (Kd.fresh' (Kd.R_lt (pkr HO292.1)) k_ hk_.1), (Kd.fresh' (Kd.N_lt (pkn HO295.1)) k_ hk_.1), (Kd.fresh' (Kd.R_lt (pkr HO298.1)) k_ hk_.1), (Kd.fresh' (Kd.R_lt (pkr HO301.1)) k_ hk_.1), (Kd.fresh' (Kd.R_lt (pkr HO306.1)) k_ hk_.1), (Kd.fresh' (Kd.N_lt (pkn HO309.1)) k_ hk_.1)⟩)) (below_size pbl)); replace HO292 := am (Kd.R_elder' (pkr HO292.1) (Kd.R_base ho0) hb); replace HO295 := am (Kd.N_mono (Kd.N_told (Kd.N_told (Kd.N_old (pkn HO295.1) hb) (Kd.R_base ho0)) (Kd.N_base ho1)) (fun _ h_ => h_.1)); replace HO298 := rbw HO298 hb; replace HO301 := rbw HO301 hb; replace HO306 := am (Kd.R_elder' (pkr HO306.1) (Kd.R_base ho0) hb); replace HO309 := am (Kd.N_mono (Kd.N_told (Kd.N_told (Kd.N_old (pkn HO309.1) hb) (Kd.R_base ho0)) (Kd.N_base ho1)) (fun _ h_ => h_.1)); replace HB := bsl hb; (try clear hb); (try clear ho0); (try clear ho1); obtain ⟨Ao23, co23, eo23⟩ := Kd.R_slice HO314.1; subst eo23; obtain ⟨Ao24, co24, eo24⟩ := Kd.N_slice HO317.1; subst eo24; clear tk1_ _t) | (go_at_call 26; (with_reducible refine (netclass_Pure.calls k t311 _ _ t312 _ _ t315 t318 _ ?side1 ?side2 ?side3 ?side4 A9.1).mono ?_); (case side1 => exact csd ((Kd.R_reads' HO314.1).2.2)); (case side2 => exact (Kd.R_reads' HO314.1).2.1); (case side3 => exact csd ((Kd.N_reads' HO317.1).2.2)); (case side4 => exact (Kd.N_reads' HO317.1).2.1); rintro e w25 ⟨rfl, hb⟩; replace HO292 := rbw HO292 hb; replace HO295 := nbw HO295 hb; replace HO298 := rbw HO298 hb; replace HO301 := rbw HO301 hb; replace HO306 := rbw HO306 hb; replace HO309 := nbw HO309 hb; replace HO314 := rbw HO314 hb; replace HO317 := nbw HO317 hb; replace HB := bsl hb; (try clear hb)))
 go_ret
 exact ⟨per, pbg⟩

end Go.Proofs.Ytplljicodflagaa.P
