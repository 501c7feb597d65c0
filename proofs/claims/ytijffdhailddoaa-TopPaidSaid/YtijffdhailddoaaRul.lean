import Derived.Test.YtijffdhailddoaaInv
set_option maxRecDepth 100000
namespace Go.Proofs.Ytijffdhailddoaa
open Go.RowKit Go.Proofs
abbrev iv (n : Int) : Value := .int .i64 n
def SrcI (H : List (Option Blk)) (ao : Option Addr) (n : Nat) (g : Int → Int) : Prop := ∀ (B : Nat) (w0 w : World), Own B w0 w H → IAt w.heap.size w ao n (fun i => iv (g i))
section
variable {P : Program} {f N : Nat} {k : List Item} {F : Fr} {w : World} {R : Ending → World → Prop} {o : Oper} {B : Nat} {w0 : World} {H : List (Option Blk)}
theorem run_once {c : Code} (h : Run P f N (.code c :: .inLoop c :: k) F w R) : Run P f N (.code (.loop c) :: k) F w R := fun a ha => RunA.of_step (fun _ => .one step_loop) (h a ha)
theorem run_again {c : Code} (h : Run P f N (.code c :: .inLoop c :: k) F w R) : Run P f N (.inLoop c :: k) F w R := fun a ha => RunA.of_step (fun _ => .one step_inLoop) (h a ha)
theorem ow_makeS {T E : TypeId} {l c : Operand} {z : Value} {by_ s : Nat} {k1 k2 : IntKind} {i j : Int} {d : Nat} (n : Nat) (zs : List Value) (hd : o.dst = some d) (hN : Nat.blt d N = true) (ho : o.op = .makeSlice T l c)
  (hT : P.underlying T = some (.slice E)) (hinfo : (P.info? E).map (fun i => (i.zero, i.size, i.bytes)) = some (some z, s, by_)) (hz : z.cells = zs.toArray) (hs : zs.length = s)
  (hO : Own B w0 w H) (hl : Fr.ev F l = some (.int k1 i)) (hc : Fr.ev F c = some (.int k2 j)) (hi : i = n) (hj : j = n) (hb : by_ * n ≤ 140737488355328 ∧ n ≤ 4000000000000) :
  OpW P N o F w (fun F' w' => ∃ b c', F' = (d, .slice (some ⟨b, 0, none⟩) n n) :: F ∧ Own B w0 w' (c' :: H) ∧ SRow (.slice (some ⟨b, 0, none⟩) n n) E s n (fun _ => zs) c' ∧ Below w.heap.size w w') := by
 subst hi; subst hj
 obtain ⟨q, hq, hq0, rfl, rfl⟩ := info_parts hinfo
 have hb' : (q.bytes : Int) * (n : Int) ≤ 281474976710656 := by
  have h : ((q.bytes * n : Nat) : Int) ≤ 281474976710656 := by omega
  rwa [Int.natCast_mul] at h
 have hrun := run_make (P := P) w T E q z hT hq hq0 k1 k2 n n (by omega) (Int.le_refl _) hb' (by omega)
 simp only [Int.toNat_natCast] at hrun
 refine (ow_w (v := .slice (some ⟨w.heap.size, 0, none⟩) n n) (w' := w.alloc (.cells (madeCells z.cells (n * q.size)) E)) hd hN (fun a ha => ?_)).mono fun F' w' ⟨h1, h2⟩ => ⟨w.heap.size, some ⟨w.heap.size, E, n * q.size, fun j => zs.getD (j % q.size) undef, none⟩, h1, ?_, .inr ⟨_, n, _, rfl, Nat.le_refl _, by unfold maxLen; omega, rfl, fun j _ => rfl⟩, by rw [h2]; exact (Below.refl _ _).alloc (Nat.le_refl _) _⟩
 ·unfold execOp
  simp only [ho, ha.ev hl, ha.ev hc, Sem.run_bind, hrun, Result.andThen_ok, Sem.run_pure]
 ·rw [h2]
  refine hO.alloc _ E (n * q.size) _ (size_madeCells _ _) fun j hj => ?_
  have hlt : j % zs.length < zs.length := Nat.mod_lt _ (by rw [hs]; exact Nat.pos_of_ne_zero fun e => by rw [e] at hj; simp at hj)
  simp [madeCells, hj, hz, List.getD_eq_getElem?_getD, hs]
  rw [hs] at hlt
  rw [List.getElem?_eq_getElem (by rw [hs]; exact hlt)]
  rfl
end
end Go.Proofs.Ytijffdhailddoaa
