import Derived.Test.YtbepolognfdkeaaQui
import Derived.Test.YtbepolognfdkeaaLate
import Derived.Test.YtbepolognfdkeaaRul
set_option maxRecDepth 100000
namespace Go.Proofs.Ytbepolognfdkeaa
open Go.RowKit Go.Proofs
theorem IRow.capU {ao : Option Addr} {m cap : Nat} {E : TypeId} {n : Nat} {G : Int → Value} {c : Option Blk} (h : IRow (.slice ao m cap) E n G c) : n ≤ cap := by
 rcases h with ⟨h1, rfl, rfl⟩ | ⟨b, cap', g, h1, h2, h3, rfl, h5⟩
 ·omega
 ·cases h1; exact h2
theorem IRow.cellU {ao : Option Addr} {m cap b : Nat} {E : TypeId} {n : Nat} {G : Int → Value} {c : Option Blk} {B : Nat} {w0 w : World} {H : List (Option Blk)} (h : IRow (.slice ao m cap) E n G c) (ho : Own B w0 w H) (k : Nat) (hk : H[k]? = some c) (ha : ao = some ⟨b, 0, none⟩) {i : Int} (i0 : 0 ≤ i) (i1 : i < n) : w.cell? ⟨b, 0 + i.toNat, none⟩ = some (G i) := by
 obtain ⟨b', e, r⟩ := h.openS ho k hk
 have := e (by omega)
 rw [ha] at this
 cases this
 exact r i i0 i1
theorem SRow.cellU {ao : Option Addr} {m cap b s n : Nat} {E : TypeId} {G : Int → List Value} {c : Option Blk} {B : Nat} {w0 w : World} {H : List (Option Blk)} (h : SRow (.slice ao m cap) E s n G c) (ho : Own B w0 w H) (k : Nat) (hk : H[k]? = some c) (ha : ao = some ⟨b, 0, none⟩) :
  ∀ i : Int, 0 ≤ i → i < n → ∀ fo, fo < s → w.cell? ⟨b, 0 + i.toNat * s + fo, none⟩ = some ((G i).getD fo undef) := fun i i0 i1 => by
 obtain ⟨b', e, r⟩ := h.openS ho k hk
 have := e (by omega)
 rw [ha] at this
 cases this
 exact r i i0 i1
theorem Own.iatU {B : Nat} {w0 w : World} {H : List (Option Blk)} (hO : Own B w0 w H) {ao : Option Addr} {n : Nat} {G : Int → Value} (h : IAt B w0 ao n G) : IAt w.heap.size w ao n G := (h.below hO.below).mono hO.size
theorem Own.satU {B : Nat} {w0 w : World} {H : List (Option Blk)} (hO : Own B w0 w H) {ao : Option Addr} {s n : Nat} {G : Int → List Value} (h : SAt B w0 ao s n G) : SAt w.heap.size w ao s n G := (h.below hO.below).mono hO.size
theorem SrcI.adr {R : List (Option Blk)} {ao : Option Addr} {n : Nat} {g : Int → Int} (h : SrcI R ao n g) {B : Nat} {w0 w : World} (hO : Own B w0 w R) (hn : 0 < n) :
  ∃ b off, ao = some ⟨b, off, none⟩ ∧ ∀ {B : Nat} {w0 w : World}, Own B w0 w R → ∀ i : Int, 0 ≤ i → i < n → w.cell? ⟨b, off + i.toNat, none⟩ = some (iv (g i)) := by
 obtain ⟨b, off, e, _⟩ := (h _ _ _ hO).open
 have e1 := e hn
 refine ⟨b, off, e1, fun {B' w0' w'} hO' i i0 i1 => ?_⟩
 obtain ⟨b', off', e', r⟩ := (h _ _ _ hO').open
 have e2 := e' hn
 rw [e1] at e2
 cases e2
 exact r _ (Below.refl _ _) i i0 i1
def TOwn (H : List (Option Blk)) (oa : Option Addr) (n : Nat) (L : Int → Nat) (R : Int → Int → Int) : Prop :=
 ∃ (A : Int → Option Addr) (C : Int → Nat), (∀ r : Int, 0 ≤ r → r < n → L r ≤ C r) ∧ ∀ (B : Nat) (w0 w : World), Own B w0 w H → IAt w.heap.size w oa n (fun r => .slice (A r) (L r) (C r)) ∧ ∀ r : Int, 0 ≤ r → r < n → IAt w.heap.size w (A r) (L r) (fun c => iv (R r c))
theorem OTab.town {ao : Option Addr} {m cap n : Nat} {T1 T2 : TypeId} {L : Int → Nat} {F : Int → Int → Int} {H : List (Option Blk)} (h : OTab (.slice ao m cap) T1 T2 n L (fun r c => iv (F r c)) H) : TOwn H ao n L F := by
 obtain ⟨c, rv, ch, rfl, h2, h3⟩ := h
 have hv : ∀ r : Int, ∃ p : Option Addr × Nat, 0 ≤ r → r < n → rv r = .slice p.1 (L r) p.2 := fun r => by
  by_cases hr : 0 ≤ r ∧ r < n
  ·obtain ⟨q, rfl⟩ := Int.eq_ofNat_of_zero_le hr.1
   obtain ⟨a, b, e⟩ := Row.val (h3 q (by omega))
   exact ⟨(a, b), fun _ _ => e⟩
  ·exact ⟨(none, 0), fun a b => absurd ⟨a, b⟩ hr⟩
 have hAC : ∀ r : Int, 0 ≤ r → r < n → rv r = .slice (Classical.choose (hv r)).1 (L r) (Classical.choose (hv r)).2 := fun r h0 hr => Classical.choose_spec (hv r) h0 hr
 have hrow : ∀ q : Nat, q < n → IRow (.slice (Classical.choose (hv q)).1 (L q) (Classical.choose (hv q)).2) T2 (L q) (fun c => iv (F q c)) (ch q) := fun q hq => by
  have := h3 q hq
  rw [hAC q (by omega) (by omega)] at this
  exact this
 refine ⟨fun r => (Classical.choose (hv r)).1, fun r => (Classical.choose (hv r)).2, fun r h0 hr => ?_, fun B w0 w hO => ⟨(h2.reads hO 0 rfl).congr hAC, fun r h0 hr => ?_⟩⟩
 ·obtain ⟨q, rfl⟩ := Int.eq_ofNat_of_zero_le h0
  exact (hrow q (by omega)).capU
 ·obtain ⟨q, rfl⟩ := Int.eq_ofNat_of_zero_le h0
  refine (hrow q (by omega)).reads hO (q + 1) ?_
  have : q < n := by omega
  simp [this]
theorem TOwn.sub {N M : List (Option Blk)} {oa : Option Addr} {n : Nat} {L : Int → Nat} {R : Int → Int → Int} (h : TOwn N oa n L R) (hs : N.Sublist M) : TOwn M oa n L R := by
 obtain ⟨A, C, h1, h2⟩ := h
 exact ⟨A, C, h1, fun B w0 w hO => h2 B w0 w (hO.sub hs)⟩
theorem TOwn.itab {H : List (Option Blk)} {oa : Option Addr} {n : Nat} {L : Int → Nat} {R : Int → Int → Int} (h : TOwn H oa n L R) {B : Nat} {w0 w : World} (hO : Own B w0 w H) : ITab w.heap.size w oa n L (fun r c => iv (R r c)) := by
 obtain ⟨A, C, _, h2⟩ := h
 exact ⟨A, C, (h2 B w0 w hO).1, (h2 B w0 w hO).2⟩
theorem TOwn.adr {H : List (Option Blk)} {oa : Option Addr} {n : Nat} {L : Int → Nat} {R : Int → Int → Int} (h : TOwn H oa n L R) {B : Nat} {w0 w : World} (hO : Own B w0 w H) (hn : 0 < n) :
  ∃ (A : Int → Option Addr) (C : Int → Nat) (b off : Nat), oa = some ⟨b, off, none⟩ ∧ (∀ {B : Nat} {w0 w : World}, Own B w0 w H → ∀ i : Int, 0 ≤ i → i < n → w.cell? ⟨b, off + i.toNat, none⟩ = some (.slice (A i) (L i) (C i))) ∧ ∀ r : Int, 0 ≤ r → r < n → SrcI H (A r) (L r) (R r) := by
 obtain ⟨A, C, h1, h2⟩ := h
 obtain ⟨b, off, e, _⟩ := (h2 B w0 w hO).1.open
 have e1 := e hn
 refine ⟨A, C, b, off, e1, fun {B' w0' w'} hO' i i0 i1 => ?_, fun r r0 r1 B w0 w hO => (h2 B w0 w hO).2 r r0 r1⟩
 obtain ⟨b', off', e', r⟩ := (h2 B' w0' w' hO').1.open
 have e2 := e' hn
 rw [e1] at e2
 cases e2
 exact r _ (Below.refl _ _) i i0 i1
end Go.Proofs.Ytbepolognfdkeaa
