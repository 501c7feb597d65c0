import Derived.Test.YteagflekbbchhaaFacts
import Derived.Scope
set_option maxRecDepth 100000
namespace Go.Proofs.Yteagflekbbchhaa
open Go.RowKit Go.Proofs
section
variable {P : Program} {N : Nat} {o : Oper} {F : Fr} {w : World} {T U : TypeId} {x y : Operand} {m n : Int}
end
section
variable {P : Program} {f N : Nat} {k : List Item} {F : Fr} {w : World} {R : Ending → World → Prop}
end
theorem IRow.openS {ao : Option Addr} {m cap : Nat} {E : TypeId} {n : Nat} {G : Int → Value} {c : Option Blk} {B : Nat} {w0 w : World} {H : List (Option Blk)} (h : IRow (.slice ao m cap) E n G c) (ho : Own B w0 w H) (k : Nat) (hk : H[k]? = some c) :
  ∃ b, (0 < n → ao = some ⟨b, 0, none⟩) ∧ ∀ i : Int, 0 ≤ i → i < n → w.cell? ⟨b, 0 + i.toNat, none⟩ = some (G i) := by
 obtain ⟨ao', cap', b, h1, h2, h3⟩ := h.open ho k hk
 cases h1
 exact ⟨b, h2, h3⟩
theorem SRow.openS {ao : Option Addr} {m cap : Nat} {E : TypeId} {s n : Nat} {G : Int → List Value} {c : Option Blk} {B : Nat} {w0 w : World} {H : List (Option Blk)} (h : SRow (.slice ao m cap) E s n G c) (ho : Own B w0 w H) (k : Nat) (hk : H[k]? = some c) :
  ∃ b, (0 < n → ao = some ⟨b, 0, none⟩) ∧ ∀ i : Int, 0 ≤ i → i < n → ∀ fo, fo < s → w.cell? ⟨b, 0 + i.toNat * s + fo, none⟩ = some ((G i).getD fo undef) := by
 obtain ⟨ao', cap', b, h1, h2, h3⟩ := h.open ho k hk
 cases h1
 exact ⟨b, h2, h3⟩
theorem Own.congrI {B : Nat} {w0 w : World} {H : List (Option Blk)} (h : Own B w0 w H) (k : Nat) {b : Nat} {t : TypeId} {n : Nat} {G G' : Int → Value} (hk : H[k]? = some (some (vch b t n G))) (e : ∀ i : Int, 0 ≤ i → i < n → G i = G' i) : Own B w0 w (H.set k (some (vch b t n G'))) :=
 h.congr k hk (fun j => G' (j : Int)) (fun i hi => e i (by omega) (by have : i < n := hi; omega))
section
variable {P : Program} {N : Nat} {o : Oper} {F : Fr} {w : World} {B : Nat} {w0 : World} {H : List (Option Blk)}
theorem ow_empty {T E : TypeId} {d : Nat} {z : Value} {sz by_ : Nat} (hd : o.dst = some d) (hN : Nat.blt d N = true) (ho : o.op = .buildSlice T 0 #[]) (hT : P.underlying T = some (.slice E))
  (hinfo : (P.info? E).map (fun i => (i.zero, i.size, i.bytes)) = some (some z, sz, by_)) (hO : Own B w0 w H) :
  OpW P N o F w (fun F' w' => ∃ v c, F' = (d, v) :: F ∧ Own B w0 w' (c :: H) ∧ (∀ f, Row v E sz 0 f c) ∧ Below w.heap.size w w') := by
 obtain ⟨i, hi, hz0, hsz, hby⟩ := info_parts hinfo
 refine (ow_w (v := .slice (some ⟨w.heap.size, 0, none⟩) 0 0) (w' := w.alloc (.cells #[] E)) hd hN (fun a ha => ?_)).mono fun F' w' ⟨g1, g2⟩ => ⟨_, _, g1, ?_, fun f => .inr ⟨w.heap.size, 0, fun _ => undef, rfl, Nat.le_refl _, by unfold maxLen; omega, rfl, fun i hi => by omega⟩, by rw [g2]; exact (Below.refl _ _).alloc (Nat.le_refl _) _⟩
 ·unfold execOp
  rw [ho]
  simp [Instr.buildSlice, run_underlying hT, sizeOf, typeInfo, hi, Instr.fill, run_newRow, Result.andThen]
  have e : ∀ f : Nat → Value, Array.map f (Array.range 0) = #[] := fun f => by apply Array.ext'; simp
  rw [e]
 ·rw [g2]
  exact hO.alloc #[] E _ _ (by simp) (fun j hj => by simp at hj)
end
end Go.Proofs.Yteagflekbbchhaa
