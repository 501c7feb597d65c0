import Derived.Test.YteagflekbbchhaaSfP
set_option maxRecDepth 100000
namespace Go.Proofs.Yteagflekbbchhaa
open Go.RowKit Go.Proofs
section
variable {P : Program} {f N : Nat} {k : List Item} {F : Fr} {w : World} {R : Ending → World → Prop} {o : Oper} {B : Nat} {w0 : World} {H : List (Option Blk)}
end
def brnt (l : Lg) : Bool := l.down && !decide (l.safe = l.recs.length)
structure RK where
 ma : Option Addr
 mc : Nat
 ga : Option Addr
 gc : Nat
 da : Option Addr
 dc : Nat
 ta : Option Addr
 tc : Nat
 ba : Option Addr
 bc : Nat
 a0 : Option Addr
 p0 : Nat
 a1 : Option Addr
 p1 : Nat
 a2 : Option Addr
 p2 : Nat
 cd : Option Blk
 ct : Option Blk
 cb : Option Blk
 c0 : Option Blk
 c1 : Option Blk
 c2 : Option Blk
def RK.la (K : RK) (n : Int) : Option Addr := if n = 0 then K.a0 else if n = 1 then K.a1 else K.a2
def RK.lp (K : RK) (n : Int) : Nat := if n = 0 then K.p0 else if n = 1 then K.p1 else K.p2
def ncl (a : Option Addr) (p : Nat) (l : Lg) : List Value := [.slice a l.recs.length p, iv l.safe, .bool l.down, .bool (brnt l), iv l.fuse]
def rwl (X : MW) (K : RK) : List Value :=
 [iv X.mem, iv X.pat, .slice K.ma X.f1.length K.mc, .slice K.ga X.f2.length K.gc, .slice K.da X.deals.length K.dc, .slice K.ta X.deals.length K.tc, .slice K.ba X.bag.length K.bc,
  .slice K.a0 X.c.recs.length K.p0, iv X.c.safe, .bool X.c.down, .bool (brnt X.c), iv X.c.fuse,
  .slice K.a1 X.s1.recs.length K.p1, iv X.s1.safe, .bool X.s1.down, .bool (brnt X.s1), iv X.s1.fuse,
  .slice K.a2 X.s2.recs.length K.p2, iv X.s2.safe, .bool X.s2.down, .bool (brnt X.s2), iv X.s2.fuse]
def rwv (X : MW) (K : RK) : Value := .agg (rwl X K).toArray
def tkl (s : Ds) : List Value := [iv s.st, .bool s.h0, .bool s.h1, .bool s.h2, iv s.wt]
def tks (X : MW) (d : Int) : Ds := if X.c.down = true then Ds.z else X.kn d
def tk (X : MW) : Int → List Value := fun i => tkl (tks X (i + 1))
structure XIn (N : List (Option Blk)) (X : MW) (K : RK) : Prop where
 mv : PRow N (.slice K.ma X.f1.length K.mc) 1 X.f1.length (fun i => [iv (X.f1.getD i.toNat 0)])
 gv : PRow N (.slice K.ga X.f2.length K.gc) 1 X.f2.length (fun i => [iv (X.f2.getD i.toNat 0)])
 dv : PRow N (.slice K.da X.deals.length K.dc) 4 X.deals.length (cnt dll Dl.z X.deals)
 tv : PRow N (.slice K.ta X.deals.length K.tc) 5 X.deals.length (tk X)
 bv : PRow N (.slice K.ba X.bag.length K.bc) 4 X.bag.length (cnt msl Ms.z X.bag)
 lv : ∀ n, N3 n → PRow N (.slice (K.la n) (X.lg n).recs.length (K.lp n)) 2 (X.lg n).recs.length (cnt rcl (0, 0) (X.lg n).recs)
theorem rw_node (X : MW) (K : RK) {n : Int} (hn : N3 n) : ∀ j, j < 5 → (rwl X K)[0 + 7 + n.toNat * 5 + j]? = (ncl (K.la n) (K.lp n) (X.lg n))[j]? := by
 intro j hj
 match j, hj with
 | 0, _ => rcases hn with rfl | rfl | rfl <;> rfl
 | 1, _ => rcases hn with rfl | rfl | rfl <;> rfl
 | 2, _ => rcases hn with rfl | rfl | rfl <;> rfl
 | 3, _ => rcases hn with rfl | rfl | rfl <;> rfl
 | 4, _ => rcases hn with rfl | rfl | rfl <;> rfl
end Go.Proofs.Yteagflekbbchhaa
