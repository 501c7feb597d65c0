import Derived.Test.YtbcjfjldmfljgaaGreatEff
namespace Go.Proofs.YtbcjfjldmfljgaaGreat
open Go.RowKit
theorem IAt.mono {B B' : Nat} {w : World} {ao : Option Addr} {n : Nat} {G : Int → Value} (h : IAt B w ao n G) (hB : B ≤ B') : IAt B' w ao n G := RAt.mono h hB
theorem IAt.below {B : Nat} {w w' : World} {ao : Option Addr} {n : Nat} {G : Int → Value} (h : IAt B w ao n G) (hb : Below B w w') : IAt B w' ao n G := RAt.below h hb
theorem IAt.congr {B : Nat} {w : World} {ao : Option Addr} {n : Nat} {G G' : Int → Value} (h : IAt B w ao n G) (e : ∀ i : Int, 0 ≤ i → i < n → G i = G' i) : IAt B w ao n G' := RAt.congr h fun i hi => e i (by omega) (by omega)
theorem IAt.nil (B : Nat) (w : World) (ao : Option Addr) (G : Int → Value) : IAt B w ao 0 G := RAt.nil _ _ _ _
def ITab (B : Nat) (w : World) (ao : Option Addr) (n : Nat) (L : Int → Nat) (F : Int → Int → Value) : Prop :=
 ∃ (A : Int → Option Addr) (C : Int → Nat), IAt B w ao n (fun r => .slice (A r) (L r) (C r)) ∧ ∀ r : Int, 0 ≤ r → r < n → IAt B w (A r) (L r) (F r)
theorem ITab.below {B : Nat} {w w' : World} {ao : Option Addr} {n : Nat} {L : Int → Nat} {F : Int → Int → Value} (h : ITab B w ao n L F) (hb : Below B w w') : ITab B w' ao n L F := by
 obtain ⟨A, C, h1, h2⟩ := h
 exact ⟨A, C, h1.below hb, fun r h0 hr => (h2 r h0 hr).below hb⟩
theorem ITab.mono {B B' : Nat} {w : World} {ao : Option Addr} {n : Nat} {L : Int → Nat} {F : Int → Int → Value} (h : ITab B w ao n L F) (hB : B ≤ B') : ITab B' w ao n L F := by
 obtain ⟨A, C, h1, h2⟩ := h
 exact ⟨A, C, h1.mono hB, fun r h0 hr => (h2 r h0 hr).mono hB⟩
theorem ITab.open {B : Nat} {w : World} {ao : Option Addr} {n : Nat} {L : Int → Nat} {F : Int → Int → Value} (h : ITab B w ao n L F) :
  ∃ (A : Int → Option Addr) (C RB RO : Int → Nat) (gb go : Nat), (0 < n → ao = some ⟨gb, go, none⟩) ∧ (∀ w', Below B w w' → ∀ r : Int, 0 ≤ r → r < n → w'.cell? ⟨gb, go + r.toNat, none⟩ = some (.slice (A r) (L r) (C r))) ∧
   (∀ r : Int, 0 ≤ r → r < n → 0 < L r → A r = some ⟨RB r, RO r, none⟩) ∧ (∀ w', Below B w w' → ∀ r : Int, 0 ≤ r → r < n → ∀ j : Int, 0 ≤ j → j < L r → w'.cell? ⟨RB r, RO r + j.toNat, none⟩ = some (F r j)) ∧
   ∀ r : Int, 0 ≤ r → r < n → IAt B w (A r) (L r) (F r) := by
 obtain ⟨A, C, h1, h2⟩ := h
 obtain ⟨gb, go, hga, hrow⟩ := h1.open
 have hx : ∀ r : Int, ∃ p : Nat × Nat, 0 ≤ r → r < n → (0 < L r → A r = some ⟨p.1, p.2, none⟩) ∧ ∀ w', Below B w w' → ∀ j : Int, 0 ≤ j → j < L r → w'.cell? ⟨p.1, p.2 + j.toNat, none⟩ = some (F r j) := by
  intro r
  by_cases hr : 0 ≤ r ∧ r < n
  ·obtain ⟨b, o, e1, e2⟩ := (h2 r hr.1 hr.2).open
   exact ⟨(b, o), fun _ _ => ⟨e1, e2⟩⟩
  ·exact ⟨(0, 0), fun a b => absurd ⟨a, b⟩ hr⟩
 exact ⟨A, C, fun r => (Classical.choose (hx r)).1, fun r => (Classical.choose (hx r)).2, gb, go, hga, hrow, fun r h0 hr => (Classical.choose_spec (hx r) h0 hr).1,
  fun w' hb r h0 hr => (Classical.choose_spec (hx r) h0 hr).2 w' hb, h2⟩
def OTab (v : Value) (T1 T2 : TypeId) (n : Nat) (L : Int → Nat) (F : Int → Int → Value) (H : List (Option Blk)) : Prop :=
 ∃ (c : Option Blk) (rv : Int → Value) (ch : Nat → Option Blk), H = c :: (List.range n).map ch ∧ IRow v T1 n rv c ∧ ∀ r : Nat, r < n → IRow (rv r) T2 (L r) (F r) (ch r)
theorem OTab.val {v : Value} {T1 T2 : TypeId} {n : Nat} {L : Int → Nat} {F : Int → Int → Value} {H : List (Option Blk)} (h : OTab v T1 T2 n L F H) : ∃ ao cap, v = .slice ao n cap := by
 obtain ⟨c, rv, ch, _, h, _⟩ := h
 exact Row.val h
theorem OTab.nil (T1 T2 : TypeId) (L : Int → Nat) (F : Int → Int → Value) : OTab (.slice none 0 0) T1 T2 0 L F [none] :=
 ⟨none, fun _ => undef, fun _ => none, rfl, IRow.nil _ _, fun _ hr => absurd hr (Nat.not_lt_zero _)⟩
theorem OTab.reads {B : Nat} {w0 w : World} {ao : Option Addr} {m cap : Nat} {T1 T2 : TypeId} {n : Nat} {L : Int → Nat} {F : Int → Int → Value} {H H' : List (Option Blk)} (h : OTab (.slice ao m cap) T1 T2 n L F H) (ho : Own B w0 w (H ++ H')) :
  ITab w.heap.size w ao n L F := by
 obtain ⟨c, rv, ch, rfl, h2, h3⟩ := h
 have hv : ∀ r : Int, ∃ p : Option Addr × Nat, 0 ≤ r → r < n → rv r = .slice p.1 (L r) p.2 := fun r => by
  by_cases hr : 0 ≤ r ∧ r < n
  ·obtain ⟨q, rfl⟩ := Int.eq_ofNat_of_zero_le hr.1
   obtain ⟨x, y, e⟩ := Row.val (h3 q (by omega))
   exact ⟨(x, y), fun _ _ => e⟩
  ·exact ⟨(none, 0), fun a b => absurd ⟨a, b⟩ hr⟩
 have hAC : ∀ r : Int, 0 ≤ r → r < n → rv r = .slice (Classical.choose (hv r)).1 (L r) (Classical.choose (hv r)).2 := fun r h0 hr => Classical.choose_spec (hv r) h0 hr
 refine ⟨fun r => (Classical.choose (hv r)).1, fun r => (Classical.choose (hv r)).2, (h2.reads ho 0 rfl).congr hAC, fun r h0 hr => ?_⟩
 obtain ⟨q, rfl⟩ := Int.eq_ofNat_of_zero_le h0
 have hk : ((c :: (List.range n).map ch) ++ H')[q + 1]? = some (ch q) := by
  have : q < n := by omega
  simp [List.getElem?_append, this]
 have h3' := h3 q (by omega)
 rw [hAC q h0 hr] at h3'
 exact h3'.reads ho (q + 1) hk
theorem OTab.snoc {B : Nat} {w0 w : World} {T1 T2 : TypeId} {n m : Nat} {L : Int → Nat} {F : Int → Int → Value} {H0 : List (Option Blk)}
  {v : Value} {c cr : Option Blk} {rv : Int → Value} {ch : Nat → Option Blk} {x : Value} {G : Int → Value}
  (h3 : ∀ r : Nat, r < n → IRow (rv r) T2 (L r) (F r) (ch r)) (hx : IRow x T2 m G cr) (hv : IRow v T1 (n + 1) (upd rv n x) c)
  (ho : Own B w0 w (cr :: c :: ((List.range n).map ch ++ H0))) (hm : L n = m) (hf : ∀ i : Int, 0 ≤ i → i < m → F n i = G i) :
  ∃ H, OTab v T1 T2 (n + 1) L F H ∧ Own B w0 w (H ++ H0) := by
 refine ⟨_, ⟨c, _, fun r => if r = n then cr else ch r, rfl, hv, fun r hr => ?_⟩, ?_⟩
 ·by_cases e : r = n
  ·subst e
   simp only [upd_same, if_true, hm]
   exact hx.congr fun i h0 hi => (hf i h0 hi).symm
  ·rw [upd_ne _ _ (by omega)]
   simp only [if_neg e]
   exact h3 r (by omega)
 ·refine ho.perm ?_
  have e : (List.range (n + 1)).map (fun r => if r = n then cr else ch r) = (List.range n).map ch ++ [cr] := by
   rw [List.range_succ, List.map_append]
   simp
   intro a ha e
   omega
  rw [e]
  simp only [List.cons_append, List.append_assoc, List.nil_append]
  refine (List.Perm.swap _ _ _).trans (List.Perm.cons _ ?_)
  exact (List.perm_middle).symm
end Go.Proofs.YtbcjfjldmfljgaaGreat
