import Derived.Test.YtfbbagnpdfafjaaEff
namespace Go.Proofs.Ytfbbagnpdfafjaa
open Go.RowKit
theorem IAt.congr {B : Nat} {w : World} {ao : Option Addr} {n : Nat} {G G' : Int → Value} (h : IAt B w ao n G) (e : ∀ i : Int, 0 ≤ i → i < n → G i = G' i) : IAt B w ao n G' := RAt.congr h fun i hi => e i (by omega) (by omega)
theorem IAt.nil (B : Nat) (w : World) (ao : Option Addr) (G : Int → Value) : IAt B w ao 0 G := RAt.nil _ _ _ _
theorem IAt.take {B : Nat} {w : World} {ao : Option Addr} {n m : Nat} {G : Int → Value} (h : IAt B w ao n G) (hm : m ≤ n) : IAt B w ao m G := RAt.take h hm
def OTab (v : Value) (T1 T2 : TypeId) (n : Nat) (L : Int → Nat) (F : Int → Int → Value) (H : List (Option Blk)) : Prop :=
 ∃ (c : Option Blk) (rv : Int → Value) (ch : Nat → Option Blk), H = c :: (List.range n).map ch ∧ IRow v T1 n rv c ∧ ∀ r : Nat, r < n → IRow (rv r) T2 (L r) (F r) (ch r)
theorem OTab.nil (T1 T2 : TypeId) (L : Int → Nat) (F : Int → Int → Value) : OTab (.slice none 0 0) T1 T2 0 L F [none] :=
 ⟨none, fun _ => undef, fun _ => none, rfl, IRow.nil _ _, fun _ hr => absurd hr (Nat.not_lt_zero _)⟩
theorem OTab.snoc {B : Nat} {w0 w : World} {T1 T2 : TypeId} {n m : Nat} {L : Int → Nat} {F : Int → Int → Value} {H0 : List (Option Blk)}
  {v : Value} {c cr : Option Blk} {rv : Int → Value} {ch : Nat → Option Blk} {x : Value} {G : Int → Value}
  (h3 : ∀ r : Nat, r < n → IRow (rv r) T2 (L r) (F r) (ch r)) (hx : IRow x T2 m G cr) (hv : IRow v T1 (n + 1) (upd rv n x) c)
  (ho : Own B w0 w (cr :: c :: ((List.range n).map ch ++ H0))) (hm : L n = m) (hf : ∀ i : Int, 0 ≤ i → i < m → F n i = G i) :
  ∃ H, OTab v T1 T2 (n + 1) L F H ∧ Own B w0 w (H ++ H0) := by
 refine ⟨_, ⟨c, _, fun r => if r = n then cr else ch r, rfl, hv, fun r hr => ?_⟩, ?_⟩
 ·by_cases e : r = n
  ·subst e
   simp only [upd_same, if_true, hm]
   exact hx.congr fun i h0 hi => (hf i h0 hi).symm
  ·rw [upd_ne _ _ (by omega)]
   simp only [if_neg e]
   exact h3 r (by omega)
 ·refine ho.perm ?_
  have e : (List.range (n + 1)).map (fun r => if r = n then cr else ch r) = (List.range n).map ch ++ [cr] := by
   rw [List.range_succ, List.map_append]
   simp
   intro a ha e
   omega
  rw [e]
  simp only [List.cons_append, List.append_assoc, List.nil_append]
  refine (List.Perm.swap _ _ _).trans (List.Perm.cons _ ?_)
  exact (List.perm_middle).symm
end Go.Proofs.Ytfbbagnpdfafjaa
