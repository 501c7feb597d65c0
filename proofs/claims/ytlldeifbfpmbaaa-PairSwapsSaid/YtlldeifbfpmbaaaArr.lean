import Derived.Test.YtlldeifbfpmbaaaBits0
import Derived.ChangeKeysEq
import Derived.Laws.Cover3
set_option maxRecDepth 100000
namespace Go.Proofs.Ytlldeifbfpmbaaa
open Go.RowKit Go.Proofs
section
variable {P : Program} {N : Nat} {o : Oper} {F : Fr} {w : World} {B : Nat} {w0 : World} {H : List (Option Blk)}
end
theorem rl_known {P : Program} {f N : Nat} {k : List Item} {F : Fr} {w : World} {R : Ending → World → Prop} {ops : Array Oper} (g : Nat) {p : Prop} {dp : Decidable p} {l : List Oper} (hb : Fr.get F g = some (.bool (decide p))) (hp : p) (h : RL P f N ops l k ((g, .bool true) :: F) w R) : RL P f N ops l k F w R :=
 rl_split_dec g hb (fun _ => h) (fun h' => absurd hp h')
theorem fill_cells (place : Nat → Option (Nat × Nat)) : ∀ (ps : List (Nat × Value)) (c : Array Value), Instr.fill place c (ps.map fun p => (p.1, Value.agg p.2.cells)) = Instr.fill place c ps
 | [], _ => rfl
 | (i, v) :: r, c => by
  have e : (Value.agg v.cells).cells = v.cells := rfl
  simp only [List.map_cons, Instr.fill, e, fill_cells place r]
theorem ow_build1 {P : Program} {N : Nat} {o : Oper} {F : Fr} {w : World} {B : Nat} {w0 : World} {H : List (Option Blk)} {T E : TypeId} {pairs : Array (Nat × Operand)} {d m : Nat} {z : Value} {by_ : Nat} (xs : List Value) (hd : o.dst = some d) (hN : Nat.blt d N = true) (ho : o.op = .buildSlice T m pairs) (hm : xs.length = m)
  (hp : pairs.toList.map (·.1) = List.range' 0 m) (hT : P.underlying T = some (.slice E)) (hinfo : (P.info? E).map (fun i => (i.zero, i.size, i.bytes)) = some (some z, 1, by_)) (hsmall : m ≤ 1000 ∧ 0 < m)
  (hO : Own B w0 w H) (hx : Fr.evs F (pairs.toList.map (·.2)) = some xs) (hs : xs.all (·.oneCell') = true) :
  OpW P N o F w (fun F' w' => ∃ b, F' = (d, .slice (some ⟨b, 0, none⟩) m m) :: F ∧ Own B w0 w' (some (vch b E m (fun i => xs.getD i.toNat undef)) :: H) ∧ Below w.heap.size w w') := by
 obtain ⟨i, hi, hz0, hsz, hby⟩ := info_parts hinfo
 have hs' : ∀ x ∈ xs, x.cells = #[x] := fun x hx => cells_one (List.all_eq_true.1 hs x hx)
 obtain ⟨c', h1, h2, h3⟩ := fill_seq 1 (xs.map fun x => [x]) 0 ((Array.range m).map (z.cells[· % z.cells.size]!)) (by simp) (by simp [hm])
 refine (ow_w (v := .slice (some ⟨w.heap.size, 0, none⟩) m m) (w' := w.alloc (.cells c' E)) hd hN (fun a ha => ?_)).mono fun F' w' ⟨g1, g2⟩ => ⟨w.heap.size, g1, ?_, by rw [g2]; exact (Below.refl _ _).alloc (Nat.le_refl _) _⟩
 ·have e := ha.evs hx
  have hparts : (pairs.toList.map fun (p : Nat × Operand) => (p.1, a.eval p.2)) = (List.range' 0 xs.length).zip xs := by
   rw [hm, ← hp, ← e]
   generalize pairs.toList = l
   induction l with
   | nil => rfl
   | cons p l ih => simp only [List.map_cons, List.zip_cons_cons, ih]
  have hf : Instr.fill (fun i => some (i, 1)) ((Array.range m).map (z.cells[· % z.cells.size]!)) ((List.range' 0 xs.length).zip xs) = some c' := by
   rw [← h1, ← fill_cells]
   congr 1
   ·funext i; simp
   ·rw [List.length_map, List.map_map]
    have hq : ∀ (l : List Value) (o : Nat), (∀ x ∈ l, x.cells = #[x]) → ((List.range' o l.length).zip l).map (fun p => (p.1, Value.agg p.2.cells)) = (List.range' o l.length).zip (l.map ((fun x => Value.agg x.toArray) ∘ fun x => [x])) := by
     intro l
     induction l with
     | nil => intro o _; rfl
     | cons x l ih =>
      intro o hl
      simp only [List.length_cons, List.range'_succ, List.zip_cons_cons, List.map_cons, ih (o + 1) (fun y hy => hl y (List.mem_cons_of_mem _ hy)), hl x (List.mem_cons_self ..)]
      rfl
    exact hq xs 0 hs'
  have h0 : ¬ m = 0 := by omega
  have h24 : ¬ (m > 2 ^ 24) := by omega
  unfold execOp
  rw [ho]
  simp [Instr.buildSlice, run_underlying hT, sizeOf, typeInfo, zeroValue, hi, hz0, hsz, h24, h0, Result.andThen, hparts, hf, run_newRow]
 ·rw [g2]
  refine hO.alloc c' E m _ (by rw [h2]; simp) (fun j hj => ?_)
  rw [h3 j, if_pos ⟨by simp, by simpa [hm] using hj⟩]
  simp [hm, hj, Nat.mod_one]
theorem ov_isnil {P : Program} {N : Nat} {o : Oper} {F : Fr} {w : World} {T U E : TypeId} {x : Operand} {ao : Option Addr} {n c : Nat} (ho : o.op = .binOp .eql T x (.const (.slice none 0 0)) U) (hT : P.underlying T = some (.slice E)) (hx : Fr.ev F x = some (.slice ao n c)) : OpV P N o F w (.bool ao.isNone) := by
 intro a ha
 unfold execOp
 have h1 := run_equal_slice_nil (P := P) (w := w) T E ao n c hT
 have hn : a.eval (.const (.slice none 0 0)) = .slice none 0 0 := rfl
 simp only [ho, ha.ev hx, hn, Sem.run_bind, eqGuard]
 simp [binOp, h1, Result.andThen]
end Go.Proofs.Ytlldeifbfpmbaaa
