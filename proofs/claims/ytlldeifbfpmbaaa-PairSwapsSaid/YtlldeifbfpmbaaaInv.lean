import Derived.Test.YtlldeifbfpmbaaaArr
set_option maxRecDepth 100000
namespace Go.Proofs.Ytlldeifbfpmbaaa
open Go.RowKit
section
variable {P : Program} {f N : Nat} {o : Oper} {F : Fr} {w : World} {k : List Item} {R : Ending → World → Prop} {ops : Array Oper} {rest : List Oper}
theorem ov_assert {T xT : TypeId} {x : Operand} {v : Value} {dd : TypeDesc} (ho : o.op = .typeAssert x xT T false) (hT : P.underlying T = some dd) (hd : (match dd with | .interface _ => false | _ => true) = true) (hx : Fr.ev F x = some (.iface T v)) : OpV P N o F w v := by
 intro a ha
 unfold execOp
 rw [ho]
 have h1 : (Instr.typeAssert (.iface T v) xT T false).run P w = .ok v w := by
  unfold Instr.typeAssert
  rw [Sem.run_bind, run_underlying hT w]
  cases dd <;> simp_all
 simp [ha.ev hx, h1, Result.andThen]
theorem meth_ptr {t : TypeId} {v : Value} {name : String} {g : FuncId} {e : TypeId} (hb : ((P.info? t).bind fun i => i.methods.find? (·.name == name)).map (fun m => (m.path, m.func)) = some (#[], some (g, true))) (hu : P.underlying t = some (.pointer e)) :
    (method (P.types.size + Made.depth) t v name).run P w = .ok (g, v) w := by
  obtain ⟨m, hb, hm'⟩ := Option.map_eq_some_iff.1 hb
  obtain ⟨i, hi, hm⟩ := Option.bind_eq_some_iff.1 hb
  have hp := congrArg Prod.fst hm'
  have hf := congrArg Prod.snd hm'
  simp only at hp hf
  obtain ⟨q, hq⟩ : ∃ q, P.types.size + Made.depth = q + 1 := ⟨P.types.size + Made.depth - 1, by have : 1 ≤ Made.depth := by decide
                                                                                                omega⟩
  rw [hq]
  unfold method
  simp [typeInfo, hi, hm, hp, follow, hf, receiverAt, run_underlying hu w, Place.get, Result.andThen]
theorem rl_invoke {fo : Operand} {xs : Array Operand} {ats : Array TypeId} {name : String} {g : FuncId} {t : TypeId} {rv rcv : Value} {vs : List Value} {d : Nat} {Post : Ending → World → Prop} (hcl : Callable P g) (hg : o.guard = none) (hd : o.dst = some d) (hN : Nat.blt d N = true)
  (ho : o.op = .call { callee := .invoke fo name, args := xs, argTypes := ats }) (hf : Fr.ev F fo = some (.iface t rv)) (hm : (method (P.types.size + Made.depth) t rv name).run P w = .ok (g, rcv) w) (hx : Fr.evs F xs.toList = some vs)
  (hC : Calls P g (#[rcv] ++ vs.toArray) w Post) (h : ∀ e w', Post e w' → ∃ v, e = .returned v ∧ RL P f N ops rest k ((d, v) :: F) w' R) : RL P f N ops (o :: rest) k F w R := by
 intro a ha
 refine wpList_plain hg fun K hK => ?_
 have hargs : xs.map a.eval = vs.toArray := by
  apply Array.ext'
  simpa using ha.evs hx
 have hex : (#[Value.iface t rv] ++ vs.toArray).extract 1 (#[Value.iface t rv] ++ vs.toArray).size = vs.toArray := by
  apply Array.ext'
  simp
 have hrun : (execOp a.eval o).run P w = .ok (.enter g (#[rcv] ++ vs.toArray)) w := by
  unfold execOp
  simp only [ho, resolve, Sem.run_bind, ha.ev hf, hargs]
  simp only [Sem.run_pure, Result.andThen_ok]
  unfold invoke
  simp only
  have h0 : (#[Value.iface t rv] ++ vs.toArray)[0]? = some (Value.iface t rv) := by simp
  rw [h0]
  simp only [hex]
  unfold callMethod
  simp [hm, run_callFunc hcl, Result.andThen]
 unfold Oper.wp
 rw [hrun]
 refine hC.mono fun e w' hp => ?_
 obtain ⟨v, rfl, hv⟩ := h e w' hp
 show K (a.put o.dst v) w'
 rw [hd]
 exact hK _ _ (hv _ (ha.put (lt_of_blt hN) v))
theorem rl_ginvoke {j gs : Nat} {bb : Bool} {fo : Operand} {xs : Array Operand} {ats : Array TypeId} {name : String} {g : FuncId} {t : TypeId} {rv rcv : Value} {vs : List Value} {d : Nat} {Post : Ending → World → Prop} (hcl : Callable P g)
  (hg : o.guard = some (j, bb)) (hj : (ops[j]?).bind (·.dst) = some gs) (hb : Fr.get F gs = some (.bool bb)) (hd : o.dst = some d) (hN : Nat.blt d N = true)
  (ho : o.op = .call { callee := .invoke fo name, args := xs, argTypes := ats }) (hf : Fr.ev F fo = some (.iface t rv)) (hm : (method (P.types.size + Made.depth) t rv name).run P w = .ok (g, rcv) w) (hx : Fr.evs F xs.toList = some vs)
  (hC : Calls P g (#[rcv] ++ vs.toArray) w Post) (h : ∀ e w', Post e w' → ∃ v, e = .returned v ∧ RL P f N ops rest k ((d, v) :: F) w' R) : RL P f N ops (o :: rest) k F w R := by
 intro a ha
 refine wpList_step fun K hK => ?_
 have hw : Region.wanted o (yielded ops a.tmps) = true := by simp [Region.wanted, hg, yielded_of ha hj hb]
 rw [if_pos hw]
 have hargs : xs.map a.eval = vs.toArray := by
  apply Array.ext'
  simpa using ha.evs hx
 have hex : (#[Value.iface t rv] ++ vs.toArray).extract 1 (#[Value.iface t rv] ++ vs.toArray).size = vs.toArray := by
  apply Array.ext'
  simp
 have hrun : (execOp a.eval o).run P w = .ok (.enter g (#[rcv] ++ vs.toArray)) w := by
  unfold execOp
  simp only [ho, resolve, Sem.run_bind, ha.ev hf, hargs]
  simp only [Sem.run_pure, Result.andThen_ok]
  unfold invoke
  simp only
  have h0 : (#[Value.iface t rv] ++ vs.toArray)[0]? = some (Value.iface t rv) := by simp
  rw [h0]
  simp only [hex]
  unfold callMethod
  simp [hm, run_callFunc hcl, Result.andThen]
 unfold Oper.wp
 rw [hrun]
 refine hC.mono fun e w' hp => ?_
 obtain ⟨v, rfl, hv⟩ := h e w' hp
 show K (a.put o.dst v) w'
 rw [hd]
 exact hK _ _ (hv _ (ha.put (lt_of_blt hN) v))
end
end Go.Proofs.Ytlldeifbfpmbaaa
