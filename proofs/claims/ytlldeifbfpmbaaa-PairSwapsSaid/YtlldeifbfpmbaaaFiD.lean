import Derived.Test.YtlldeifbfpmbaaaFgB
import Derived.Test.YtlldeifbfpmbaaaFeF
import Derived.Test.YtlldeifbfpmbaaaFbJ
set_option maxRecDepth 100000
namespace Go.Proofs.Ytlldeifbfpmbaaa
open Go.RowKit Go.Proofs Go.MapKept
theorem IRow.cellA {ao : Option Addr} {m cap b : Nat} {E : TypeId} {n : Nat} {G : Int → Value} {c : Option Blk} {B : Nat} {w0 w : World} {H : List (Option Blk)} (h : IRow (.slice ao m cap) E n G c) (ho : Own B w0 w H) (k : Nat) (hk : H[k]? = some c) (ha : ao = some ⟨b, 0, none⟩) {i : Int} (i0 : 0 ≤ i) (i1 : i < n) : w.cell? ⟨b, 0 + i.toNat, none⟩ = some (G i) := by
 obtain ⟨b', e, r⟩ := h.openS ho k hk
 have := e (by omega)
 rw [ha] at this
 cases this
 exact r i i0 i1
theorem tab_take {B : Nat} {w0 w : World} {v : Value} {T1 T2 : TypeId} {n : Nat} {L : Int → Nat} {F : Int → Int → Value} {H R : List (Option Blk)} {a b : Option Blk} (h : OTab v T1 T2 n L F H) (ho : Own B w0 w (a :: b :: (H ++ R))) (i : Nat) (hi : i < n) :
  ∃ (c : Option Blk) (rv : Int → Value) (ch : Nat → Option Blk), IRow v T1 n rv c ∧ (∀ r : Nat, r < n → IRow (rv r) T2 (L r) (F r) (ch r)) ∧ Own B w0 w (a :: b :: ch i :: c :: (((List.range n).erase i).map ch ++ R)) := by
 obtain ⟨c, rv, ch, rfl, h2, h3⟩ := h
 refine ⟨c, rv, ch, h2, h3, ho.perm (((?_ : List.Perm _ _).cons b).cons a)⟩
 have p := (List.perm_cons_erase (List.mem_range.2 hi)).map ch
 exact ((p.append_right R).cons c).trans (List.Perm.swap _ _ _)
theorem tab_put {B : Nat} {w0 w : World} {v x : Value} {T1 T2 : TypeId} {n m : Nat} {L : Int → Nat} {F : Int → Int → Value} {G : Int → Value} {R : List (Option Blk)} {a b y c cr : Option Blk} {rv : Int → Value} {ch : Nat → Option Blk} (i : Nat) (hi : i < n)
  (hv : IRow v T1 n (upd rv i x) c) (h3 : ∀ r : Nat, r < n → IRow (rv r) T2 (L r) (F r) (ch r)) (hx : IRow x T2 m G cr) (ho : Own B w0 w (cr :: a :: b :: y :: c :: (((List.range n).erase i).map ch ++ R))) :
  ∃ H, OTab v T1 T2 n (upd L i m) (upd F i G) H ∧ Own B w0 w (a :: b :: (H ++ R)) := by
 have ho2 := ho.sub (.cons_cons _ (.cons_cons _ (.cons_cons _ (.cons _ (.refl _)))))
 have p1 : (cr :: a :: b :: c :: (((List.range n).erase i).map ch ++ R)).Perm (cr :: c :: (((List.range n).erase i).map ch ++ (a :: b :: R))) := by
  refine List.Perm.cons _ ?_
  refine List.Perm.trans ?_ (List.perm_middle (l₁ := c :: ((List.range n).erase i).map ch)).symm
  exact ((List.perm_middle (l₁ := c :: ((List.range n).erase i).map ch)).symm).cons a
 obtain ⟨H, hT, hO⟩ := OTab.put9 i hi hv h3 hx (ho2.perm p1)
 exact ⟨H, hT, hO.perm (List.perm_middle.trans ((List.perm_middle).cons a))⟩
theorem updE {k : Nat} {E1 : Int → Int → Int} {E : Int → Int} : ∀ r c : Int, upd (fun r c => iv (E1 r c)) (k : Int) (fun i => iv (E i)) r c = iv (upd E1 (k : Int) E r c) := fun r c => by
 unfold upd
 split <;> rfl
structure TdL (k n N : Nat) (L : Int → Nat) (E : Int → Int → Int) : Prop where
 len : ∀ r : Int, 0 ≤ r → r < n → L r ≤ 12
 is : ∀ r : Int, 0 ≤ r → r < k → IsL (L r) (E r) N
theorem TdL.step {q n N k : Nat} {L : Int → Nat} {E : Int → Int → Int} {X : Int → Int} (h : TdL q n N L E) (hk : k ≤ 12) (hX : IsL k X N) : TdL (q + 1) n N (upd L (q : Int) k) (upd E (q : Int) X) := by
 refine ⟨fun r r0 r1 => ?_, fun r r0 r1 => ?_⟩
 ·unfold upd
  split
  ·exact hk
  ·exact h.len r r0 r1
 ·by_cases e : r = q
  ·rw [e, upd_same, upd_same]; exact hX
  ·rw [upd_ne _ _ e, upd_ne _ _ e]; exact h.is r r0 (by omega)
end Go.Proofs.Ytlldeifbfpmbaaa
set_option maxRecDepth 100000
namespace Go.Proofs.Ytlldeifbfpmbaaa
open Go.RowKit Go.Proofs Go.MapKept
section
variable (ga ba qa la : Option Addr) (gc bc qc nq ln lc : Nat) (f : Fair) (l : Int → Int) (w : World) (hlg : Lg5 f nq) (hF : FAg w.heap.size w ga ba qa f nq) (hln : ln ≤ 1000000) (hl : IAt w.heap.size w la ln (fun i => iv (l i)))
include hlg hF
include hln hl
end
end Go.Proofs.Ytlldeifbfpmbaaa
