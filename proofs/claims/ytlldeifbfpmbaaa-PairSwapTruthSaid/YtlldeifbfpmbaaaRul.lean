import Derived.Test.YtlldeifbfpmbaaaBits0
import Derived.ChangeKeysEq
import Derived.Laws.Cover3
set_option maxRecDepth 100000
namespace Go.Proofs.Ytlldeifbfpmbaaa
open Go.RowKit Go.Proofs
section
variable {P : Program} {N : Nat} {o : Oper} {F : Fr} {w : World} {B : Nat} {w0 : World} {H : List (Option Blk)}
end
theorem ov_convTo {P : Program} {N : Nat} {o : Oper} {F : Fr} {w : World} {S T : TypeId} {x : Operand} {k k' : IntKind} {n m : Int} {ds : TypeDesc} (hm : k.wrap n = m) (ho : o.op = .convert S T x) (hS : P.underlying S = some ds) (hT : P.underlying T = some (.int k)) (hx : Fr.ev F x = some (.int k' n)) : OpV P N o F w (.int k m) := by
 have := ov_conv (P := P) (N := N) (w := w) ho hS hT hx
 rwa [hm] at this
theorem rl_known {P : Program} {f N : Nat} {k : List Item} {F : Fr} {w : World} {R : Ending → World → Prop} {ops : Array Oper} (g : Nat) {p : Prop} {dp : Decidable p} {l : List Oper} (hb : Fr.get F g = some (.bool (decide p))) (hp : p) (h : RL P f N ops l k ((g, .bool true) :: F) w R) : RL P f N ops l k F w R :=
 rl_split_dec g hb (fun _ => h) (fun h' => absurd hp h')
theorem fill_cells (place : Nat → Option (Nat × Nat)) : ∀ (ps : List (Nat × Value)) (c : Array Value), Instr.fill place c (ps.map fun p => (p.1, Value.agg p.2.cells)) = Instr.fill place c ps
 | [], _ => rfl
 | (i, v) :: r, c => by
  have e : (Value.agg v.cells).cells = v.cells := rfl
  simp only [List.map_cons, Instr.fill, e, fill_cells place r]
theorem ow_build1 {P : Program} {N : Nat} {o : Oper} {F : Fr} {w : World} {B : Nat} {w0 : World} {H : List (Option Blk)} {T E : TypeId} {pairs : Array (Nat × Operand)} {d m : Nat} {z : Value} {by_ : Nat} (xs : List Value) (hd : o.dst = some d) (hN : Nat.blt d N = true) (ho : o.op = .buildSlice T m pairs) (hm : xs.length = m)
  (hp : pairs.toList.map (·.1) = List.range' 0 m) (hT : P.underlying T = some (.slice E)) (hinfo : (P.info? E).map (fun i => (i.zero, i.size, i.bytes)) = some (some z, 1, by_)) (hsmall : m ≤ 1000 ∧ 0 < m)
  (hO : Own B w0 w H) (hx : Fr.evs F (pairs.toList.map (·.2)) = some xs) (hs : xs.all (·.oneCell') = true) :
  OpW P N o F w (fun F' w' => ∃ b, F' = (d, .slice (some ⟨b, 0, none⟩) m m) :: F ∧ Own B w0 w' (some (vch b E m (fun i => xs.getD i.toNat undef)) :: H) ∧ Below w.heap.size w w') := by
 obtain ⟨i, hi, hz0, hsz, hby⟩ := info_parts hinfo
 have hs' : ∀ x ∈ xs, x.cells = #[x] := fun x hx => cells_one (List.all_eq_true.1 hs x hx)
 obtain ⟨c', h1, h2, h3⟩ := fill_seq 1 (xs.map fun x => [x]) 0 ((Array.range m).map (z.cells[· % z.cells.size]!)) (by simp) (by simp [hm])
 refine (ow_w (v := .slice (some ⟨w.heap.size, 0, none⟩) m m) (w' := w.alloc (.cells c' E)) hd hN (fun a ha => ?_)).mono fun F' w' ⟨g1, g2⟩ => ⟨w.heap.size, g1, ?_, by rw [g2]; exact (Below.refl _ _).alloc (Nat.le_refl _) _⟩
 ·have e := ha.evs hx
  have hparts : (pairs.toList.map fun (p : Nat × Operand) => (p.1, a.eval p.2)) = (List.range' 0 xs.length).zip xs := by
   rw [hm, ← hp, ← e]
   generalize pairs.toList = l
   induction l with
   | nil => rfl
   | cons p l ih => simp only [List.map_cons, List.zip_cons_cons, ih]
  have hf : Instr.fill (fun i => some (i, 1)) ((Array.range m).map (z.cells[· % z.cells.size]!)) ((List.range' 0 xs.length).zip xs) = some c' := by
   rw [← h1, ← fill_cells]
   congr 1
   ·funext i; simp
   ·rw [List.length_map, List.map_map]
    have hq : ∀ (l : List Value) (o : Nat), (∀ x ∈ l, x.cells = #[x]) → ((List.range' o l.length).zip l).map (fun p => (p.1, Value.agg p.2.cells)) = (List.range' o l.length).zip (l.map ((fun x => Value.agg x.toArray) ∘ fun x => [x])) := by
     intro l
     induction l with
     | nil => intro o _; rfl
     | cons x l ih =>
      intro o hl
      simp only [List.length_cons, List.range'_succ, List.zip_cons_cons, List.map_cons, ih (o + 1) (fun y hy => hl y (List.mem_cons_of_mem _ hy)), hl x (List.mem_cons_self ..)]
      rfl
    exact hq xs 0 hs'
  have h0 : ¬ m = 0 := by omega
  have h24 : ¬ (m > 2 ^ 24) := by omega
  unfold execOp
  rw [ho]
  simp [Instr.buildSlice, run_underlying hT, sizeOf, typeInfo, zeroValue, hi, hz0, hsz, h24, h0, Result.andThen, hparts, hf, run_newRow]
 ·rw [g2]
  refine hO.alloc c' E m _ (by rw [h2]; simp) (fun j hj => ?_)
  rw [h3 j, if_pos ⟨by simp, by simpa [hm] using hj⟩]
  simp [hm, hj, Nat.mod_one]
theorem ov_isnil {P : Program} {N : Nat} {o : Oper} {F : Fr} {w : World} {T U E : TypeId} {x : Operand} {ao : Option Addr} {n c : Nat} (ho : o.op = .binOp .eql T x (.const (.slice none 0 0)) U) (hT : P.underlying T = some (.slice E)) (hx : Fr.ev F x = some (.slice ao n c)) : OpV P N o F w (.bool ao.isNone) := by
 intro a ha
 unfold execOp
 have h1 := run_equal_slice_nil (P := P) (w := w) T E ao n c hT
 have hn : a.eval (.const (.slice none 0 0)) = .slice none 0 0 := rfl
 simp only [ho, ha.ev hx, hn, Sem.run_bind, eqGuard]
 simp [binOp, h1, Result.andThen]
end Go.Proofs.Ytlldeifbfpmbaaa
set_option maxRecDepth 100000
namespace Go.Proofs.Ytlldeifbfpmbaaa
open Go.RowKit
section
variable {P : Program} {f N : Nat} {o : Oper} {F : Fr} {w : World} {k : List Item} {R : Ending → World → Prop} {ops : Array Oper} {rest : List Oper}
theorem ov_assert {T xT : TypeId} {x : Operand} {v : Value} {dd : TypeDesc} (ho : o.op = .typeAssert x xT T false) (hT : P.underlying T = some dd) (hd : (match dd with | .interface _ => false | _ => true) = true) (hx : Fr.ev F x = some (.iface T v)) : OpV P N o F w v := by
 intro a ha
 unfold execOp
 rw [ho]
 have h1 : (Instr.typeAssert (.iface T v) xT T false).run P w = .ok v w := by
  unfold Instr.typeAssert
  rw [Sem.run_bind, run_underlying hT w]
  cases dd <;> simp_all
 simp [ha.ev hx, h1, Result.andThen]
theorem meth_ptr {t : TypeId} {v : Value} {name : String} {g : FuncId} {e : TypeId} (hb : ((P.info? t).bind fun i => i.methods.find? (·.name == name)).map (fun m => (m.path, m.func)) = some (#[], some (g, true))) (hu : P.underlying t = some (.pointer e)) :
    (method (P.types.size + Made.depth) t v name).run P w = .ok (g, v) w := by
  obtain ⟨m, hb, hm'⟩ := Option.map_eq_some_iff.1 hb
  obtain ⟨i, hi, hm⟩ := Option.bind_eq_some_iff.1 hb
  have hp := congrArg Prod.fst hm'
  have hf := congrArg Prod.snd hm'
  simp only at hp hf
  obtain ⟨q, hq⟩ : ∃ q, P.types.size + Made.depth = q + 1 := ⟨P.types.size + Made.depth - 1, by have : 1 ≤ Made.depth := by decide
                                                                                                omega⟩
  rw [hq]
  unfold method
  simp [typeInfo, hi, hm, hp, follow, hf, receiverAt, run_underlying hu w, Place.get, Result.andThen]
theorem rl_invoke {fo : Operand} {xs : Array Operand} {ats : Array TypeId} {name : String} {g : FuncId} {t : TypeId} {rv rcv : Value} {vs : List Value} {d : Nat} {Post : Ending → World → Prop} (hcl : Callable P g) (hg : o.guard = none) (hd : o.dst = some d) (hN : Nat.blt d N = true)
  (ho : o.op = .call { callee := .invoke fo name, args := xs, argTypes := ats }) (hf : Fr.ev F fo = some (.iface t rv)) (hm : (method (P.types.size + Made.depth) t rv name).run P w = .ok (g, rcv) w) (hx : Fr.evs F xs.toList = some vs)
  (hC : Calls P g (#[rcv] ++ vs.toArray) w Post) (h : ∀ e w', Post e w' → ∃ v, e = .returned v ∧ RL P f N ops rest k ((d, v) :: F) w' R) : RL P f N ops (o :: rest) k F w R := by
 intro a ha
 refine wpList_plain hg fun K hK => ?_
 have hargs : xs.map a.eval = vs.toArray := by
  apply Array.ext'
  simpa using ha.evs hx
 have hex : (#[Value.iface t rv] ++ vs.toArray).extract 1 (#[Value.iface t rv] ++ vs.toArray).size = vs.toArray := by
  apply Array.ext'
  simp
 have hrun : (execOp a.eval o).run P w = .ok (.enter g (#[rcv] ++ vs.toArray)) w := by
  unfold execOp
  simp only [ho, resolve, Sem.run_bind, ha.ev hf, hargs]
  simp only [Sem.run_pure, Result.andThen_ok]
  unfold invoke
  simp only
  have h0 : (#[Value.iface t rv] ++ vs.toArray)[0]? = some (Value.iface t rv) := by simp
  rw [h0]
  simp only [hex]
  unfold callMethod
  simp [hm, run_callFunc hcl, Result.andThen]
 unfold Oper.wp
 rw [hrun]
 refine hC.mono fun e w' hp => ?_
 obtain ⟨v, rfl, hv⟩ := h e w' hp
 show K (a.put o.dst v) w'
 rw [hd]
 exact hK _ _ (hv _ (ha.put (lt_of_blt hN) v))
theorem rl_ginvoke {j gs : Nat} {bb : Bool} {fo : Operand} {xs : Array Operand} {ats : Array TypeId} {name : String} {g : FuncId} {t : TypeId} {rv rcv : Value} {vs : List Value} {d : Nat} {Post : Ending → World → Prop} (hcl : Callable P g)
  (hg : o.guard = some (j, bb)) (hj : (ops[j]?).bind (·.dst) = some gs) (hb : Fr.get F gs = some (.bool bb)) (hd : o.dst = some d) (hN : Nat.blt d N = true)
  (ho : o.op = .call { callee := .invoke fo name, args := xs, argTypes := ats }) (hf : Fr.ev F fo = some (.iface t rv)) (hm : (method (P.types.size + Made.depth) t rv name).run P w = .ok (g, rcv) w) (hx : Fr.evs F xs.toList = some vs)
  (hC : Calls P g (#[rcv] ++ vs.toArray) w Post) (h : ∀ e w', Post e w' → ∃ v, e = .returned v ∧ RL P f N ops rest k ((d, v) :: F) w' R) : RL P f N ops (o :: rest) k F w R := by
 intro a ha
 refine wpList_step fun K hK => ?_
 have hw : Region.wanted o (yielded ops a.tmps) = true := by simp [Region.wanted, hg, yielded_of ha hj hb]
 rw [if_pos hw]
 have hargs : xs.map a.eval = vs.toArray := by
  apply Array.ext'
  simpa using ha.evs hx
 have hex : (#[Value.iface t rv] ++ vs.toArray).extract 1 (#[Value.iface t rv] ++ vs.toArray).size = vs.toArray := by
  apply Array.ext'
  simp
 have hrun : (execOp a.eval o).run P w = .ok (.enter g (#[rcv] ++ vs.toArray)) w := by
  unfold execOp
  simp only [ho, resolve, Sem.run_bind, ha.ev hf, hargs]
  simp only [Sem.run_pure, Result.andThen_ok]
  unfold invoke
  simp only
  have h0 : (#[Value.iface t rv] ++ vs.toArray)[0]? = some (Value.iface t rv) := by simp
  rw [h0]
  simp only [hex]
  unfold callMethod
  simp [hm, run_callFunc hcl, Result.andThen]
 unfold Oper.wp
 rw [hrun]
 refine hC.mono fun e w' hp => ?_
 obtain ⟨v, rfl, hv⟩ := h e w' hp
 show K (a.put o.dst v) w'
 rw [hd]
 exact hK _ _ (hv _ (ha.put (lt_of_blt hN) v))
end
end Go.Proofs.Ytlldeifbfpmbaaa
set_option maxRecDepth 100000
namespace Go.Proofs.Ytlldeifbfpmbaaa
open Go.RowKit Go.Proofs
abbrev iv (n : Int) : Value := .int .i64 n
abbrev ptr (b : Nat) : Value := .pointer (some ⟨b, 0, none⟩)
section
variable {P : Program} {f N : Nat} {k : List Item} {F : Fr} {w : World} {R : Ending → World → Prop} {o : Oper} {B : Nat} {w0 : World} {H : List (Option Blk)}
theorem run_once {c : Code} (h : Run P f N (.code c :: .inLoop c :: k) F w R) : Run P f N (.code (.loop c) :: k) F w R := fun a ha => RunA.of_step (fun _ => .one step_loop) (h a ha)
end
end Go.Proofs.Ytlldeifbfpmbaaa
