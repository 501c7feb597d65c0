import Derived.Test.YtlldeifbfpmbaaaGreatFkD
import Derived.Test.YtlldeifbfpmbaaaGreatFiC
import Derived.Test.YtlldeifbfpmbaaaGreatFcG
import Derived.Test.YtlldeifbfpmbaaaGreatFgC
set_option maxRecDepth 100000
namespace Go.Proofs.YtlldeifbfpmbaaaGreat
open Go.RowKit Go.Proofs Go.MapKept
section
variable (ga la : Option Addr) (n gc ln lc : Nat) (L : Int → Nat) (E : Int → Int → Int) (w : World) (hL : ∀ r : Int, 0 ≤ r → r < n → L r ≤ 1000000) (hn : n ≤ 1000000) (h : RTab w.heap.size w ga n L E)
include hL hn h
end
end Go.Proofs.YtlldeifbfpmbaaaGreat
set_option maxRecDepth 100000
namespace Go.Proofs.YtlldeifbfpmbaaaGreat
open Go.RowKit Go.Proofs Go.MapKept
section
variable (ga ba qa : Option Addr) (n gc m bc nq qc : Nat) (GL BL : Int → Nat) (GE BE : Int → Int → Int) (q : Int → Int) (w : World)
  (hG : RTab w.heap.size w ga n GL GE) (hB : RTab w.heap.size w ba m BL BE) (hQ : IAt w.heap.size w qa nq (fun i => iv (q i)))
include hG hB hQ
end
end Go.Proofs.YtlldeifbfpmbaaaGreat
