import Derived.Test.YtbepolognfdkeaaEff
namespace Go.Proofs.Ytbepolognfdkeaa
open Go.RowKit
theorem IAt.mono {B B' : Nat} {w : World} {ao : Option Addr} {n : Nat} {G : Int → Value} (h : IAt B w ao n G) (hB : B ≤ B') : IAt B' w ao n G := RAt.mono h hB
theorem IAt.below {B : Nat} {w w' : World} {ao : Option Addr} {n : Nat} {G : Int → Value} (h : IAt B w ao n G) (hb : Below B w w') : IAt B w' ao n G := RAt.below h hb
theorem IAt.congr {B : Nat} {w : World} {ao : Option Addr} {n : Nat} {G G' : Int → Value} (h : IAt B w ao n G) (e : ∀ i : Int, 0 ≤ i → i < n → G i = G' i) : IAt B w ao n G' := RAt.congr h fun i hi => e i (by omega) (by omega)
theorem IAt.nil (B : Nat) (w : World) (ao : Option Addr) (G : Int → Value) : IAt B w ao 0 G := RAt.nil _ _ _ _
theorem IAt.take {B : Nat} {w : World} {ao : Option Addr} {n m : Nat} {G : Int → Value} (h : IAt B w ao n G) (hm : m ≤ n) : IAt B w ao m G := RAt.take h hm
def ITab (B : Nat) (w : World) (ao : Option Addr) (n : Nat) (L : Int → Nat) (F : Int → Int → Value) : Prop :=
 ∃ (A : Int → Option Addr) (C : Int → Nat), IAt B w ao n (fun r => .slice (A r) (L r) (C r)) ∧ ∀ r : Int, 0 ≤ r → r < n → IAt B w (A r) (L r) (F r)
theorem ITab.below {B : Nat} {w w' : World} {ao : Option Addr} {n : Nat} {L : Int → Nat} {F : Int → Int → Value} (h : ITab B w ao n L F) (hb : Below B w w') : ITab B w' ao n L F := by
 obtain ⟨A, C, h1, h2⟩ := h
 exact ⟨A, C, h1.below hb, fun r h0 hr => (h2 r h0 hr).below hb⟩
theorem ITab.mono {B B' : Nat} {w : World} {ao : Option Addr} {n : Nat} {L : Int → Nat} {F : Int → Int → Value} (h : ITab B w ao n L F) (hB : B ≤ B') : ITab B' w ao n L F := by
 obtain ⟨A, C, h1, h2⟩ := h
 exact ⟨A, C, h1.mono hB, fun r h0 hr => (h2 r h0 hr).mono hB⟩
theorem ITab.later {w w' : World} {ao : Option Addr} {n : Nat} {L : Int → Nat} {F : Int → Int → Value} (h : ITab w.heap.size w ao n L F) (hb : Below w.heap.size w w') : ITab w'.heap.size w' ao n L F := (h.below hb).mono hb.size
theorem ITab.open {B : Nat} {w : World} {ao : Option Addr} {n : Nat} {L : Int → Nat} {F : Int → Int → Value} (h : ITab B w ao n L F) :
  ∃ (A : Int → Option Addr) (C RB RO : Int → Nat) (gb go : Nat), (0 < n → ao = some ⟨gb, go, none⟩) ∧ (∀ w', Below B w w' → ∀ r : Int, 0 ≤ r → r < n → w'.cell? ⟨gb, go + r.toNat, none⟩ = some (.slice (A r) (L r) (C r))) ∧
   (∀ r : Int, 0 ≤ r → r < n → 0 < L r → A r = some ⟨RB r, RO r, none⟩) ∧ (∀ w', Below B w w' → ∀ r : Int, 0 ≤ r → r < n → ∀ j : Int, 0 ≤ j → j < L r → w'.cell? ⟨RB r, RO r + j.toNat, none⟩ = some (F r j)) ∧
   ∀ r : Int, 0 ≤ r → r < n → IAt B w (A r) (L r) (F r) := by
 obtain ⟨A, C, h1, h2⟩ := h
 obtain ⟨gb, go, hga, hrow⟩ := h1.open
 have hx : ∀ r : Int, ∃ p : Nat × Nat, 0 ≤ r → r < n → (0 < L r → A r = some ⟨p.1, p.2, none⟩) ∧ ∀ w', Below B w w' → ∀ j : Int, 0 ≤ j → j < L r → w'.cell? ⟨p.1, p.2 + j.toNat, none⟩ = some (F r j) := by
  intro r
  by_cases hr : 0 ≤ r ∧ r < n
  ·obtain ⟨b, o, e1, e2⟩ := (h2 r hr.1 hr.2).open
   exact ⟨(b, o), fun _ _ => ⟨e1, e2⟩⟩
  ·exact ⟨(0, 0), fun a b => absurd ⟨a, b⟩ hr⟩
 exact ⟨A, C, fun r => (Classical.choose (hx r)).1, fun r => (Classical.choose (hx r)).2, gb, go, hga, hrow, fun r h0 hr => (Classical.choose_spec (hx r) h0 hr).1,
  fun w' hb r h0 hr => (Classical.choose_spec (hx r) h0 hr).2 w' hb, h2⟩
def OTab (v : Value) (T1 T2 : TypeId) (n : Nat) (L : Int → Nat) (F : Int → Int → Value) (H : List (Option Blk)) : Prop :=
 ∃ (c : Option Blk) (rv : Int → Value) (ch : Nat → Option Blk), H = c :: (List.range n).map ch ∧ IRow v T1 n rv c ∧ ∀ r : Nat, r < n → IRow (rv r) T2 (L r) (F r) (ch r)
end Go.Proofs.Ytbepolognfdkeaa
