import Derived.Test.YtbepolognfdkeaaLate
set_option maxRecDepth 100000
namespace Go.Proofs.Ytbepolognfdkeaa
open Go.RowKit Go.Proofs
theorem Own.nones {B : Nat} {w0 w : World} {H : List (Option Blk)} (h : Own B w0 w H) : ∀ n : Nat, Own B w0 w (List.replicate n none ++ H)
 | 0 => h
 | n + 1 => (h.nones n).nil_cons
theorem OTab.congr2 {v : Value} {T1 T2 : TypeId} {n : Nat} {L L' : Int → Nat} {F G : Int → Int → Value} {H : List (Option Blk)} (h : OTab v T1 T2 n L F H) (hL : ∀ r : Int, 0 ≤ r → r < n → L r = L' r) (e : ∀ r c : Int, 0 ≤ r → r < n → 0 ≤ c → c < L r → F r c = G r c) : OTab v T1 T2 n L' G H := by
 obtain ⟨c, rv, ch, h1, h2, h3⟩ := h
 exact ⟨c, rv, ch, h1, h2, fun r hr => by rw [← hL r (by omega) (by omega)]; exact (h3 r hr).congr (fun i h0 hi => e r i (by omega) (by omega) h0 hi)⟩
theorem OTab.nils (b : Nat) (T1 T2 : TypeId) (n : Nat) (G : Int → Value) (F : Int → Int → Value) (hn : n ≤ maxLen) (hG : ∀ i : Int, 0 ≤ i → i < n → G i = .slice none 0 0) : OTab (.slice (some ⟨b, 0, none⟩) n n) T1 T2 n (fun _ => 0) F (some (vch b T1 n G) :: (List.range n).map fun _ => none) :=
 ⟨_, fun _ => .slice none 0 0, fun _ => none, rfl, IRow.ofV (Nat.le_refl _) hn hG, fun _ _ => IRow.nil _ _⟩
theorem tab_take {B : Nat} {w0 w : World} {v : Value} {T1 T2 : TypeId} {n : Nat} {L : Int → Nat} {F : Int → Int → Value} {H R : List (Option Blk)} {a b : Option Blk} (h : OTab v T1 T2 n L F H) (ho : Own B w0 w (a :: b :: (H ++ R))) (i : Nat) (hi : i < n) :
  ∃ (c : Option Blk) (rv : Int → Value) (ch : Nat → Option Blk), IRow v T1 n rv c ∧ (∀ r : Nat, r < n → IRow (rv r) T2 (L r) (F r) (ch r)) ∧ Own B w0 w (a :: b :: ch i :: c :: (((List.range n).erase i).map ch ++ R)) := by
 obtain ⟨c, rv, ch, rfl, h2, h3⟩ := h
 refine ⟨c, rv, ch, h2, h3, ho.perm (((?_ : List.Perm _ _).cons b).cons a)⟩
 have p := (List.perm_cons_erase (List.mem_range.2 hi)).map ch
 exact ((p.append_right R).cons c).trans (List.Perm.swap _ _ _)
theorem tab_put {B : Nat} {w0 w : World} {v x : Value} {T1 T2 : TypeId} {n m : Nat} {L : Int → Nat} {F : Int → Int → Value} {G : Int → Value} {R : List (Option Blk)} {a b y c cr : Option Blk} {rv : Int → Value} {ch : Nat → Option Blk} (i : Nat) (hi : i < n)
  (hv : IRow v T1 n (upd rv i x) c) (h3 : ∀ r : Nat, r < n → IRow (rv r) T2 (L r) (F r) (ch r)) (hx : IRow x T2 m G cr) (ho : Own B w0 w (cr :: a :: b :: y :: c :: (((List.range n).erase i).map ch ++ R))) :
  ∃ H, OTab v T1 T2 n (upd L i m) (upd F i G) H ∧ Own B w0 w (a :: b :: (H ++ R)) := by
 have ho2 := ho.sub (.cons_cons _ (.cons_cons _ (.cons_cons _ (.cons _ (.refl _)))))
 have p1 : (cr :: a :: b :: c :: (((List.range n).erase i).map ch ++ R)).Perm (cr :: c :: (((List.range n).erase i).map ch ++ (a :: b :: R))) := by
  refine List.Perm.cons _ ?_
  refine List.Perm.trans ?_ (List.perm_middle (l₁ := c :: ((List.range n).erase i).map ch)).symm
  exact ((List.perm_middle (l₁ := c :: ((List.range n).erase i).map ch)).symm).cons a
 obtain ⟨H, hT, hO⟩ := OTab.put9 i hi hv h3 hx (ho2.perm p1)
 exact ⟨H, hT, hO.perm (List.perm_middle.trans ((List.perm_middle).cons a))⟩
theorem tab_put2 {B : Nat} {w0 w : World} {v x : Value} {T1 T2 : TypeId} {n m : Nat} {L : Int → Nat} {F : Int → Int → Value} {G : Int → Value} {R : List (Option Blk)} {a b c cr : Option Blk} {rv : Int → Value} {ch : Nat → Option Blk} (i : Nat) (hi : i < n)
  (hv : IRow v T1 n (upd rv i x) c) (h3 : ∀ r : Nat, r < n → IRow (rv r) T2 (L r) (F r) (ch r)) (hx : IRow x T2 m G cr) (ho : Own B w0 w (a :: b :: cr :: c :: (((List.range n).erase i).map ch ++ R))) :
  ∃ H, OTab v T1 T2 n (upd L i m) (upd F i G) H ∧ Own B w0 w (a :: b :: (H ++ R)) :=
 tab_put (y := none) i hi hv h3 hx (ho.nil_cons.perm (List.Perm.append_right (c :: (((List.range n).erase i).map ch ++ R)) (l₁ := [none, a, b, cr]) (l₂ := [cr, a, b, none])
  ((List.perm_append_comm (l₁ := [none]) (l₂ := [a, b, cr])).trans ((List.perm_append_comm (l₁ := [a, b]) (l₂ := [cr, none])).trans ((List.perm_append_comm (l₁ := [none]) (l₂ := [a, b])).cons cr)))))
end Go.Proofs.Ytbepolognfdkeaa
