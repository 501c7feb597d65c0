import Derived.Test.YtbepolognfdkeaaHeld
import Derived.Shelf.SlSortCmp.NoneTotal
import Derived.RangeFuncLeaves
import Derived.RangeFuncRecord
import Derived.RangeFuncSeq
import Derived.OrdersIn
import Derived.TacticsIn
set_option maxRecDepth 100000
namespace Go.Proofs.Ytbepolognfdkeaa
open Go.RowKit Go.Proofs
theorem heap_sort {α : Type} [Inhabited α] (enc : α → Value) (w : World) (ob n : Nat) (d : Array α) (os : Array Obj) {k : Nat} (hk : k < w.heap.size) (hne : k ≠ ob) : (sortWorld enc w ob 0 n d os).heap[k]? = w.heap[k]? := by
 unfold sortWorld
 rw [Sort.heap_grow_old _ _ (by rw [Sort.size_putRow]; exact hk)]
 unfold Sort.putRow Sort.mapBlock
 show (w.heap.modify ob _)[k]? = _
 rw [Array.getElem?_modify, if_neg (fun e => hne e.symm)]
theorem size_sort {α : Type} [Inhabited α] (enc : α → Value) (w : World) (ob n : Nat) (d : Array α) (os : Array Obj) : w.heap.size ≤ (sortWorld enc w ob 0 n d os).heap.size := by
 unfold sortWorld
 rw [Sort.size_grow, Sort.size_putRow]
 exact Nat.le_add_right _ _
theorem Own.sorted {α : Type} [Inhabited α] {enc : α → Value} {B : Nat} {w0 w : World} {H : List (Option Blk)} {ob cap nr : Nat} {E : TypeId} {G : Int → Value} (hO : Own B w0 w (some (vch ob E cap G) :: H)) (n : Nat) (d : Array α) (os : Array Obj) (hs : d.size = nr) (hc : nr ≤ cap) :
  Own B w0 (sortWorld enc w ob 0 n d os) (some (vch ob E cap (fun i => if i < nr then enc d[i.toNat]! else G i)) :: H) := by
 have hge : B ≤ ob := hO.ge _ (List.mem_cons_self ..)
 have hb := hO.get 0 rfl
 have hlt := hO.lt 0 rfl
 refine hO.updBB 0 rfl ⟨rfl, rfl, rfl, size_sort .., fun k hk => heap_sort enc w ob n d os (Nat.lt_trans (Nat.lt_of_lt_of_le hk hge) hlt) (by omega)⟩ (fun j hj hne => heap_sort enc w ob n d os hj hne) ?_ hge (.inl rfl)
 obtain ⟨c, h1, h2, h3⟩ := hb
 refine blkIs.of_row rfl ⟨Sort.putCells enc 0 d c, ?_, ?_, fun i hi => ?_⟩
 ·unfold sortWorld
  rw [Sort.heap_grow_old _ _ (by rw [Sort.size_putRow]; exact hlt)]
  unfold Sort.putRow Sort.mapBlock
  show (w.heap.modify ob _)[ob]? = _
  rw [Array.getElem?_modify, if_pos rfl]
  show (w.heap[ob]?).map _ = _
  have h1' : w.heap[ob]? = some (.cells c E (0, 0)) := h1
  rw [h1']
  rfl
 ·unfold Sort.putCells
  rw [Array.size_mapIdx]; exact h2
 ·have hi' : i < cap := hi
  have h4 : c[i]? = some (G i) := h3 i hi
  unfold Sort.putCells
  rw [Array.getElem?_mapIdx, h4]
  show some (if 0 ≤ i ∧ i < 0 + d.size then enc d[i - 0]! else G i) = some (if (i : Int) < nr then enc d[(i : Int).toNat]! else G i)
  by_cases e : i < nr
  ·rw [if_pos ⟨Nat.zero_le _, by omega⟩, if_pos (by omega)]; rfl
  ·rw [if_neg (by omega), if_neg (by omega)]
end Go.Proofs.Ytbepolognfdkeaa
namespace Go.Proofs.Ytbepolognfdkeaa
open Go.RowKit
def FW (ro : Option Nat) : Fence := { Fence.wide with round := ro }
section
variable {P : Program} {f N : Nat} {k : List Item} {F : Fr} {w : World} {R : Ending → World → Prop} {ops : Array Oper} {o : Oper} {rest : List Oper} {ro : Option Nat} {n : Nat} {a : Act} {Q : Exit → Act → World → Prop}
theorem callsFW {g : FuncId} {args : Array Value} (h : Calls P g args w R) : CallsIn (FW ro) n P g args w R := by
 have h1 := (callsIn_wide (n := n)).2 h
 exact h1
theorem rowsFW {row : String} {args : Array Value} {R : Value → World → Prop} (h : Rows P row args w R) : RowsIn (FW ro) n P row args w R := fun c cs _ =>
 let ⟨v, w', r, s⟩ := h c cs
 ⟨v, w', r, stepsIn_wide.2 s⟩
theorem wpIn_of_wp {K : Act → World → Prop} (hnd : ∀ c, o.op ≠ .defer c) (h : o.wp P a w K Q) : o.wpIn (FW ro) n P a w K Q := by
 refine ⟨fun _ _ => trivial, ?_⟩
 have e : o.semAt (FW ro).round a.eval = execOp a.eval o := by
  cases ro with
  | none => unfold Oper.semAt; cases ho : o.op <;> rfl
  | some l => exact Oper.semAt_some l a.eval o hnd
 rw [e]
 unfold Oper.wp at h
 revert h
 cases hr : (execOp a.eval o).run P w with
 | ok x w' =>
  cases x with
  | value v => exact id
  | skip => exact id
  | defer d => exact id
  | enter g args => exact fun h => ⟨fun hd => absurd hd (by simp [FW, Fence.wide]), callsFW h⟩
  | row row args => exact fun h => ⟨fun hd => absurd hd (by simp [FW, Fence.wide]), rowsFW h⟩
  | _ => intro h; exact h.elim
 | halt x w' => cases x <;> intro h <;> exact h
def LI (ro : Option Nat) (n : Nat) (P : Program) (N : Nat) (ops : Array Oper) (Q : Exit → Act → World → Prop) (l : List Oper) (F : Fr) (w : World) : Prop := ∀ a, Holds N F a → wpListIn (FW ro) n P ops Q l a w
def CI (ro : Option Nat) (n : Nat) (P : Program) (N : Nat) (Q : Exit → Act → World → Prop) (c : Code) (F : Fr) (w : World) : Prop := ∀ a, Holds N F a → c.wpIn (FW ro) n P Q a w
theorem li_nil (h : ∀ a, Holds N F a → Q .normal a w) : LI ro n P N ops Q [] F w := h
theorem li_ow {Post : Fr → World → Prop} (hg : o.guard = none) (hnd : ∀ c, o.op ≠ .defer c) (hw : OpW P N o F w Post) (h : ∀ F' w', Post F' w' → LI ro n P N ops Q rest F' w') : LI ro n P N ops Q (o :: rest) F w := fun a ha =>
 wpListIn_plain hg fun K hK => wpIn_of_wp hnd (hw a ha K _ fun F' a' w' hp ha' => hK _ _ (h F' w' hp a' ha'))
theorem li_v {d : Nat} {v : Value} (hg : o.guard = none) (hnd : ∀ c, o.op ≠ .defer c) (hd : o.dst = some d) (hN : Nat.blt d N = true) (hv : OpV P N o F w v) (h : LI ro n P N ops Q rest ((d, v) :: F) w) : LI ro n P N ops Q (o :: rest) F w :=
 li_ow hg hnd (ow_v hd hN hv) fun F' w' ⟨h1, h2⟩ => by subst h1; subst h2; exact h
theorem ci_region {id : Nat} {l : List Oper} (h : LI ro n P N l.toArray Q l F w) : CI ro n P N Q (.region id l.toArray false) F w := fun a ha => wpIn_region_lit (h a ha)
theorem ci_block {id : Nat} {c : Code} (h : CI ro n P N (Exit.inBlock id Q) c F w) : CI ro n P N Q (.block id c) F w := fun a ha => wpIn_block (h a ha)
theorem wpIn_yield {l d : Nat} {fo : Operand} {xs : Array Operand} {ats : Array TypeId} {vs : List Value} {K : Act → World → Prop} {Post : Value → World → Prop} (hd : o.dst = some d) (hN : Nat.blt d N = true) (ho : o.op = .call { callee := .value fo, args := xs, argTypes := ats })
  (hf : Fr.ev F fo = some (.func (.yield l) #[] #[])) (hx : Fr.evs F xs.toList = some vs) (hY : YieldAt (FW none) 0 P l vs.toArray w fun e w' => ∃ v, e = .returned v ∧ Post v w') (ha : Holds N F a)
  (hK : ∀ v a' w', Post v w' → Holds N ((d, v) :: F) a' → K a' w') : o.wpIn (FW none) 0 P a w K Q := by
 refine ⟨fun _ _ => trivial, ?_⟩
 have hargs : xs.map a.eval = vs.toArray := by
  apply Array.ext'
  simpa using ha.evs hx
 obtain ⟨fn, tmps, assign, body, h1, h2⟩ := hY
 have hrun : (execOp a.eval o).run P w = .ok (.round l fn tmps assign body) w := by
  unfold execOp
  simp only [ho, resolve, Sem.run_bind, Deferred.ofValue, ha.ev hf, hargs]
  simp [invoke, Result.andThen, h1]
 have e : o.semAt (FW none).round a.eval = execOp a.eval o := by unfold Oper.semAt; cases ho : o.op <;> rfl
 rw [e, hrun]
 refine ⟨fun hd => absurd hd (by simp [FW, Fence.wide]), ?_⟩
 refine RoundIn.mono h2 fun e w' he => ?_
 obtain ⟨v, rfl, hp⟩ := he
 rw [hd]
 exact hK v _ w' hp (ha.put (lt_of_blt hN) v)
end
end Go.Proofs.Ytbepolognfdkeaa
