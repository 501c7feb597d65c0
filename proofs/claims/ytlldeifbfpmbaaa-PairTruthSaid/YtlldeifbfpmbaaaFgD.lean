import Derived.Test.YtlldeifbfpmbaaaFgC
import Derived.Test.YtlldeifbfpmbaaaFcG
set_option maxRecDepth 100000
namespace Go.Proofs.Ytlldeifbfpmbaaa
open Go.RowKit Go.Proofs Go.MapKept
def FSrc (H : List (Option Blk)) (ga ba qa : Option Addr) (f : Fair) : Prop := ∀ (B : Nat) (w0 w : World), Own B w0 w H → FAg w.heap.size w ga ba qa f f.m
theorem FSrc.at {H : List (Option Blk)} {ga ba qa : Option Addr} {f : Fair} (h : FSrc H ga ba qa f) {B : Nat} {w0 w : World} (hO : Own B w0 w H) : FAg w.heap.size w ga ba qa f f.m := h B w0 w hO
section
variable (ga ba qa : Option Addr) (n gc m bc nq qc : Nat) (GL BL : Int → Nat) (GE BE : Int → Int → Int) (q : Int → Int) (w : World)
  (hG : RTab w.heap.size w ga n GL GE) (hB : RTab w.heap.size w ba m BL BE) (hQ : IAt w.heap.size w qa nq (fun i => iv (q i)))
include hG hB hQ
end
end Go.Proofs.Ytlldeifbfpmbaaa
