import Derived.Test.YtijffdhailddoaaArr
set_option maxRecDepth 100000
namespace Go.Proofs.Ytijffdhailddoaa
open Go.RowKit
section
variable {P : Program} {f N : Nat} {o : Oper} {F : Fr} {w : World} {k : List Item} {R : Ending → World → Prop} {ops : Array Oper} {rest : List Oper}
theorem ov_assert {T xT : TypeId} {x : Operand} {v : Value} {dd : TypeDesc} (ho : o.op = .typeAssert x xT T false) (hT : P.underlying T = some dd) (hd : (match dd with | .interface _ => false | _ => true) = true) (hx : Fr.ev F x = some (.iface T v)) : OpV P N o F w v := by
 intro a ha
 unfold execOp
 rw [ho]
 have h1 : (Instr.typeAssert (.iface T v) xT T false).run P w = .ok v w := by
  unfold Instr.typeAssert
  rw [Sem.run_bind, run_underlying hT w]
  cases dd <;> simp_all
 simp [ha.ev hx, h1, Result.andThen]
theorem meth_ptr {t : TypeId} {v : Value} {name : String} {g : FuncId} {e : TypeId} (hb : ((P.info? t).bind fun i => i.methods.find? (·.name == name)).map (fun m => (m.path, m.func)) = some (#[], some (g, true))) (hu : P.underlying t = some (.pointer e)) :
    (method (P.types.size + Made.depth) t v name).run P w = .ok (g, v) w := by
  obtain ⟨m, hb, hm'⟩ := Option.map_eq_some_iff.1 hb
  obtain ⟨i, hi, hm⟩ := Option.bind_eq_some_iff.1 hb
  have hp := congrArg Prod.fst hm'
  have hf := congrArg Prod.snd hm'
  simp only at hp hf
  obtain ⟨q, hq⟩ : ∃ q, P.types.size + Made.depth = q + 1 := ⟨P.types.size + Made.depth - 1, by have : 1 ≤ Made.depth := by decide
                                                                                                omega⟩
  rw [hq]
  unfold method
  simp [typeInfo, hi, hm, hp, follow, hf, receiverAt, run_underlying hu w, Place.get, Result.andThen]
theorem meth_emb {t S xt : TypeId} {b : Nat} {name : String} {g : FuncId} {fs : Array Field} {q : Field} {u : Value} {e : TypeId} (hb : ((P.info? t).bind fun i => i.methods.find? (·.name == name)).map (fun m => (m.path, m.func)) = some (#[⟨S, 0, true⟩], some (g, false)))
    (hS : P.underlying S = some (.struct fs)) (hq : fs[0]? = some q) (hqt : q.type = xt) (hqo : q.offset = 0) (hsz : (P.info? xt).map (fun i => Nat.blt 0 i.size) = some true) (hx : P.underlying xt = some (.slice e)) (hc : w.cell? ⟨b, 0, none⟩ = some u) :
    (method (P.types.size + Made.depth) t (.pointer (some ⟨b, 0, none⟩)) name).run P w = .ok (g, u) w := by
  obtain ⟨m, hb, hm'⟩ := Option.map_eq_some_iff.1 hb
  obtain ⟨i, hi, hm⟩ := Option.bind_eq_some_iff.1 hb
  have hp := congrArg Prod.fst hm'
  have hf := congrArg Prod.snd hm'
  simp only at hp hf
  obtain ⟨n, hn⟩ : ∃ n, P.types.size + Made.depth = n + 1 := ⟨P.types.size + Made.depth - 1, by have : 1 ≤ Made.depth := by decide
                                                                                                omega⟩
  rw [hn]
  unfold method
  have hpl : ∀ w', (fieldPlace ⟨b, 0, none⟩ q).run P w' = .ok ⟨b, 0, none⟩ w' := fun w' => by
    obtain ⟨j, hj, h⟩ := Option.map_eq_some_iff.1 hsz
    have hlt := lt_of_blt h
    simp [fieldPlace, hqt, sizeOf, typeInfo, hj, show j.size ≠ 0 by omega, hqo, Addr.add_mid]
  have hagg : (isAgg xt).run P w = .ok false w := by
    unfold isAgg
    rw [Sem.run_bind, run_underlying hx w]
    rfl
  have hload : (loadVar xt ⟨b, 0, none⟩).run P w = .ok u w := by
    unfold loadVar
    simp [hagg, hc, Result.andThen]
  simp [typeInfo, hi, hm, hp, follow, run_underlying hS w, hq, Place.get, asAddr, hpl, hqt, hf, receiverAt, run_underlying hx w, hload, Result.andThen]
theorem rl_invoke {fo : Operand} {xs : Array Operand} {ats : Array TypeId} {name : String} {g : FuncId} {t : TypeId} {rv rcv : Value} {vs : List Value} {d : Nat} {Post : Ending → World → Prop} (hcl : Callable P g) (hg : o.guard = none) (hd : o.dst = some d) (hN : Nat.blt d N = true)
  (ho : o.op = .call { callee := .invoke fo name, args := xs, argTypes := ats }) (hf : Fr.ev F fo = some (.iface t rv)) (hm : (method (P.types.size + Made.depth) t rv name).run P w = .ok (g, rcv) w) (hx : Fr.evs F xs.toList = some vs)
  (hC : Calls P g (#[rcv] ++ vs.toArray) w Post) (h : ∀ e w', Post e w' → ∃ v, e = .returned v ∧ RL P f N ops rest k ((d, v) :: F) w' R) : RL P f N ops (o :: rest) k F w R := by
 intro a ha
 refine wpList_plain hg fun K hK => ?_
 have hargs : xs.map a.eval = vs.toArray := by
  apply Array.ext'
  simpa using ha.evs hx
 have hex : (#[Value.iface t rv] ++ vs.toArray).extract 1 (#[Value.iface t rv] ++ vs.toArray).size = vs.toArray := by
  apply Array.ext'
  simp
 have hrun : (execOp a.eval o).run P w = .ok (.enter g (#[rcv] ++ vs.toArray)) w := by
  unfold execOp
  simp only [ho, resolve, Sem.run_bind, ha.ev hf, hargs]
  simp only [Sem.run_pure, Result.andThen_ok]
  unfold invoke
  simp only
  have h0 : (#[Value.iface t rv] ++ vs.toArray)[0]? = some (Value.iface t rv) := by simp
  rw [h0]
  simp only [hex]
  unfold callMethod
  simp [hm, run_callFunc hcl, Result.andThen]
 unfold Oper.wp
 rw [hrun]
 refine hC.mono fun e w' hp => ?_
 obtain ⟨v, rfl, hv⟩ := h e w' hp
 show K (a.put o.dst v) w'
 rw [hd]
 exact hK _ _ (hv _ (ha.put (lt_of_blt hN) v))
theorem rl_ginvoke {j gs : Nat} {bb : Bool} {fo : Operand} {xs : Array Operand} {ats : Array TypeId} {name : String} {g : FuncId} {t : TypeId} {rv rcv : Value} {vs : List Value} {d : Nat} {Post : Ending → World → Prop} (hcl : Callable P g)
  (hg : o.guard = some (j, bb)) (hj : (ops[j]?).bind (·.dst) = some gs) (hb : Fr.get F gs = some (.bool bb)) (hd : o.dst = some d) (hN : Nat.blt d N = true)
  (ho : o.op = .call { callee := .invoke fo name, args := xs, argTypes := ats }) (hf : Fr.ev F fo = some (.iface t rv)) (hm : (method (P.types.size + Made.depth) t rv name).run P w = .ok (g, rcv) w) (hx : Fr.evs F xs.toList = some vs)
  (hC : Calls P g (#[rcv] ++ vs.toArray) w Post) (h : ∀ e w', Post e w' → ∃ v, e = .returned v ∧ RL P f N ops rest k ((d, v) :: F) w' R) : RL P f N ops (o :: rest) k F w R := by
 intro a ha
 refine wpList_step fun K hK => ?_
 have hw : Region.wanted o (yielded ops a.tmps) = true := by simp [Region.wanted, hg, yielded_of ha hj hb]
 rw [if_pos hw]
 have hargs : xs.map a.eval = vs.toArray := by
  apply Array.ext'
  simpa using ha.evs hx
 have hex : (#[Value.iface t rv] ++ vs.toArray).extract 1 (#[Value.iface t rv] ++ vs.toArray).size = vs.toArray := by
  apply Array.ext'
  simp
 have hrun : (execOp a.eval o).run P w = .ok (.enter g (#[rcv] ++ vs.toArray)) w := by
  unfold execOp
  simp only [ho, resolve, Sem.run_bind, ha.ev hf, hargs]
  simp only [Sem.run_pure, Result.andThen_ok]
  unfold invoke
  simp only
  have h0 : (#[Value.iface t rv] ++ vs.toArray)[0]? = some (Value.iface t rv) := by simp
  rw [h0]
  simp only [hex]
  unfold callMethod
  simp [hm, run_callFunc hcl, Result.andThen]
 unfold Oper.wp
 rw [hrun]
 refine hC.mono fun e w' hp => ?_
 obtain ⟨v, rfl, hv⟩ := h e w' hp
 show K (a.put o.dst v) w'
 rw [hd]
 exact hK _ _ (hv _ (ha.put (lt_of_blt hN) v))
theorem ow_storeE2 {T E : TypeId} {p x : Operand} {b n cap B kk : Nat} {w0 : World} {H : List (Option Blk)} {G : Int → List Value} {c : Option Blk} {ao : Option Addr} {i : Int} {v0 v1 : Value} (hd : o.dst = none) (ho : o.op = .store T p x) (hi : (P.info? T).map (·.size) = some 2)
  (hO : Own B w0 w H) (hr : SRow (.slice ao n cap) E 2 n G c) (hk : H[kk]? = some c) (hao : 0 < n → ao = some ⟨b, 0, none⟩) (hp : Fr.ev F p = some (.pointer (some ⟨b, 0 + i.toNat * 2, none⟩))) (hb : 0 ≤ i ∧ i < n) (hl : (G i).length = 2)
  (hx : Fr.ev F x = some (.agg #[v0, v1])) (h0 : v0.oneCell' = true) (h1 : v1.oneCell' = true) :
  OpW P N o F w (fun F' w' => ∃ c', F' = F ∧ Own B w0 w' (H.set kk c') ∧ SRow (.slice ao n cap) E 2 n (upd G i [v0, v1]) c' ∧ w'.heap.size = w.heap.size) := by
 obtain ⟨c1, q2, q3, q4, q5⟩ := hr.store hO kk hk rfl hao i hb.1 hb.2 0 (by omega) hl v0
 have hkl : kk < H.length := (List.getElem?_eq_some_iff.1 hk).1
 obtain ⟨c2, r2, r3, r4, r5⟩ := q3.store q2 kk (by simp [hkl]) rfl hao i hb.1 hb.2 1 (by omega) (by rw [upd_same]; simp [hl]) v1
 obtain ⟨_, _, _, s4, s5⟩ := hr.store hO kk hk rfl hao i hb.1 hb.2 1 (by omega) hl v1
 rw [List.set_set] at r2
 refine (ow_u (w' := w.setCells b (0 + i.toNat * 2) [v0, v1]) hd (fun a ha => ?_)).mono fun F' w' ⟨e1, e2⟩ => ⟨c2, e1, by rw [e2]; exact r2, r3.congr fun j j0 j1 => ?_, by rw [e2]; exact size_setCells _ _ _ _⟩
 ·have hrun := run_storeAt_mid (P := P) w b (0 + i.toNat * 2) T #[v0, v1] (fun j hj => by
   have hj' : j = 0 ∨ j = 1 := by simp at hj; omega
   rcases hj' with rfl | rfl
   ·exact ⟨q4, q5⟩
   ·exact ⟨s4, s5⟩) (by simpa using hi) (by simp [h0, h1])
  unfold execOp
  simp only [ho, ha.ev hp, ha.ev hx, Sem.run_bind, hrun, Result.andThen_ok, Sem.run_pure]
 ·unfold upd
  by_cases e : j = i
  ·simp only [e, if_true]
   match hg : G i, hl with
   | [a0, a1], _ => simp
  ·simp only [if_neg e]
end
end Go.Proofs.Ytijffdhailddoaa
