import Derived.Test.YtbcjfjldmfljgaaGreatHlH
import Derived.Test.YtbcjfjldmfljgaaGreatPrw
set_option maxRecDepth 100000
namespace Go.Proofs.YtbcjfjldmfljgaaGreat
open Go.RowKit Go.Proofs Go.MapKept Hal
section
variable {P : Program} {f N : Nat} {ops : Array Oper} {k : List Item} {F : Fr} {w : World} {R : Ending → World → Prop} {S : World → Prop} {fuel : Nat} {listed : Array Bool}
theorem rh_split (g : Nat) {b : Bool} (hb : Fr.get F g = some (.bool b)) (ht : b = true → RH P f N ops S fuel listed k ((g, .bool true) :: F) w R) (hf : b = false → RH P f N ops S fuel listed k ((g, .bool false) :: F) w R) : RH P f N ops S fuel listed k F w R := by
 cases h : b with
 | true => exact rh_yes g hb h (ht h)
 | false => exact rh_no g hb h (hf h)
theorem rh_split_dec (g : Nat) {p : Prop} {dp : Decidable p} (hb : Fr.get F g = some (.bool (decide p))) (ht : p → RH P f N ops S fuel listed k ((g, .bool true) :: F) w R) (hf : ¬ p → RH P f N ops S fuel listed k ((g, .bool false) :: F) w R) : RH P f N ops S fuel listed k F w R := by
 by_cases h : p
 ·exact rh_yesD g hb h (ht h)
 ·exact rh_noD g hb h (hf h)
end
section
variable {h : Hal} {p : Int → Int} {k : Int} {a : Int → Int}
def PM (h : Hal) (p : Int → Int) (k i x : Int) : Prop := (k ≤ x ∧ x < i) ∧ 0 < h.gn p x
def PL (p : Int → Int) (k : Int) (a : Int → Int) (j x : Int) : Prop := (0 ≤ x ∧ x < j) ∧ ¬ Tkn k a x ∧ 0 < p x
theorem can_free {b : Int → Int} (k0 : 0 ≤ k) (k1 : k ≤ h.nb) (hB : h.Bal p b) (he : ∀ i : Int, 0 ≤ i → i < k → b i = a i) {x : Int} (x0 : k ≤ x) (x1 : x < h.nb) (hx : 0 ≤ b x) : ¬ Tkn k a (b x) := fun ⟨i, hi, e⟩ => by
 have h1 := he i hi.1 hi.2
 have := hB.inj i x hi.1 (by omega) (by omega) x1 (by omega) (by omega)
 omega
theorem bal_no1 {op : Int → Int → Prop} {of : Int → Int} {i : Int} {s : Int → Bool} (k0 : 0 ≤ k) (k1 : k ≤ h.nb) (hop : ∀ x j : Int, k ≤ x → x < h.nb → 0 < h.gn p x → 0 ≤ j → j < h.nl → h.opR p k a x j → op x j) (hK : KD h.nl op (PM h p k i) of) (i0 : k ≤ i) (i1 : i < h.nb) (hg : 0 < h.gn p i) (hF : KF h.nl op i of (fun _ => false) s) : ¬ h.Can p k a := by
 rintro ⟨b, hB, he⟩
 have hin : ∀ x : Int, PM h p k i x ∨ x = i → (k ≤ x ∧ x < h.nb) ∧ 0 < h.gn p x := fun x hx => by
  rcases hx with q | q
  ·exact ⟨⟨q.1.1, by have := q.1.2; omega⟩, q.2⟩
  ·rw [q]; exact ⟨⟨i0, i1⟩, hg⟩
 have hb : ∀ x : Int, PM h p k i x ∨ x = i → 0 ≤ b x ∧ b x < h.nl := fun x hx => by
  have q := hin x hx
  rcases hB.rng x (by omega) q.1.2 with e | e
  ·have := hB.no_ x (by omega) q.1.2 e; omega
  ·exact e
 refine KD.fail (by omega) (by omega) hK (fun q => by have := q.1.2; omega) hF ⟨b, fun x x0 hx => ⟨hb x hx, ?_⟩, fun x y x0 hx y0 hy e => ?_⟩
 ·have q := hin x hx
  have r := hb x hx
  exact hop x _ q.1.1 q.1.2 q.2 r.1 r.2 ⟨q.1, hB.yes x x0 q.1.2 r.1, can_free k0 k1 hB he q.1.1 q.1.2 r.1⟩
 ·exact hB.inj x y x0 (hin x hx).1.2 y0 (hin y hy).1.2 (hb x hx).1 e
theorem bal_no2 {op : Int → Int → Prop} {of : Int → Int} {j : Int} {s : Int → Bool} (k0 : 0 ≤ k) (k1 : k ≤ h.nb) (hop : ∀ j i : Int, 0 ≤ j → j < h.nl → 0 ≤ i → i < h.nb → h.opR p k a i j → op j i) (hK : KD h.nb op (PL p k a j) of) (j0 : 0 ≤ j) (j1 : j < h.nl) (ht : ¬ Tkn k a j) (hp : 0 < p j) (hF : KF h.nb op j of (fun _ => false) s) : ¬ h.Can p k a := by
 rintro ⟨b, hB, he⟩
 have hin : ∀ x : Int, PL p k a j x ∨ x = j → (0 ≤ x ∧ x < h.nl) ∧ ¬ Tkn k a x ∧ 0 < p x := fun x hx => by
  rcases hx with q | q
  ·exact ⟨⟨q.1.1, by have := q.1.2; omega⟩, q.2⟩
  ·rw [q]; exact ⟨⟨j0, j1⟩, ht, hp⟩
 have hex : ∀ x : Int, ∃ i : Int, PL p k a j x ∨ x = j → (0 ≤ i ∧ i < h.nb) ∧ b i = x := fun x => by
  by_cases c : PL p k a j x ∨ x = j
  ·have q := hin x c
   obtain ⟨i, hi⟩ := hB.pos x q.1.1 q.1.2 q.2.2
   exact ⟨i, fun _ => hi⟩
  ·exact ⟨0, fun q => absurd q c⟩
 refine KD.fail (by omega) j0 hK (fun q => by have := q.1.2; omega) hF ⟨fun x => Classical.choose (hex x), fun x x0 hx => ⟨(Classical.choose_spec (hex x) hx).1, ?_⟩, fun x y x0 hx y0 hy e => ?_⟩
 ·obtain ⟨r1, r2⟩ := Classical.choose_spec (hex x) hx
  have q := hin x hx
  refine hop x _ q.1.1 q.1.2 r1.1 r1.2 ⟨⟨?_, r1.2⟩, ?_, q.2.1⟩
  ·show k ≤ Classical.choose (hex x)
   exact Classical.byContradiction fun hn => q.2.1 ⟨Classical.choose (hex x), ⟨r1.1, by omega⟩, (he (Classical.choose (hex x)) r1.1 (by omega)).symm.trans r2⟩
  ·have := hB.yes _ r1.1 r1.2 (by rw [r2]; omega)
   rw [r2] at this
   exact this
 ·have q1 := (Classical.choose_spec (hex x) hx).2
  have q2 := (Classical.choose_spec (hex y) hy).2
  have e' : Classical.choose (hex x) = Classical.choose (hex y) := e
  rw [e'] at q1
  exact q1.symm.trans q2
theorem bal_yes {op1 op2 : Int → Int → Prop} {of1 of2 : Int → Int} (k0 : 0 ≤ k) (k1 : k ≤ h.nb) (hP : h.Part p k a) (ho1 : ∀ x j : Int, k ≤ x → x < h.nb → 0 < h.gn p x → 0 ≤ j → j < h.nl → op1 x j → h.opR p k a x j) (ho2 : ∀ j i : Int, 0 ≤ j → j < h.nl → 0 ≤ i → i < h.nb → op2 j i → h.opR p k a i j)
  (h1 : KD h.nl op1 (PM h p k h.nb) of1) (h2 : KD h.nb op2 (PL p k a h.nl) of2) : h.Can p k a := by
 have m1 := Mt.of_kd h1
 have m2 := Mt.of_kd h2
 refine Hal.join2 hP k0 k1 (of1 := of1) (of2 := of2) ⟨fun b b0 b1 hb => ?_, m1.inj, m1.cov, m1.only⟩ ⟨fun b b0 b1 hb => ?_, m2.inj, m2.cov, m2.only⟩
 ·have q := m1.only b b0 b1 hb
  exact ho1 _ b q.1.1 q.1.2 q.2 b0 b1 (m1.ok b b0 b1 hb)
 ·have q := m2.only b b0 b1 hb
  exact ho2 _ b q.1.1 q.1.2 b0 b1 (m2.ok b b0 b1 hb)
end
theorem row_at {B : Nat} {w0 w : World} (K : List (Option Blk)) {n : Nat} {rv : Int → Value} {ch : Nat → Option Blk} {R : List (Option Blk)} {E : TypeId} {m : Nat} {F : Int → Value} {r : Nat} (hO : Own B w0 w (K ++ ((List.range n).map ch ++ R))) (hr : r < n) (h : IRow (rv r) E m F (ch r)) : ∃ (a : Option Addr) (c : Nat), rv r = .slice a m c ∧ IAt w.heap.size w a m F := by
 obtain ⟨a, c, e⟩ := Row.val h
 rw [e] at h
 exact ⟨a, c, e, h.reads (own_take K r hr hO) 0 rfl⟩
end Go.Proofs.YtbcjfjldmfljgaaGreat
