import Derived.Test.YtfbbagnpdfafjaaArr
set_option maxRecDepth 100000
namespace Go.Proofs.Ytfbbagnpdfafjaa
open Go.RowKit
section
variable {P : Program} {f N : Nat} {o : Oper} {F : Fr} {w : World} {k : List Item} {R : Ending → World → Prop} {ops : Array Oper} {rest : List Oper}
theorem ov_assert {T xT : TypeId} {x : Operand} {v : Value} {dd : TypeDesc} (ho : o.op = .typeAssert x xT T false) (hT : P.underlying T = some dd) (hd : (match dd with | .interface _ => false | _ => true) = true) (hx : Fr.ev F x = some (.iface T v)) : OpV P N o F w v := by
 intro a ha
 unfold execOp
 rw [ho]
 have h1 : (Instr.typeAssert (.iface T v) xT T false).run P w = .ok v w := by
  unfold Instr.typeAssert
  rw [Sem.run_bind, run_underlying hT w]
  cases dd <;> simp_all
 simp [ha.ev hx, h1, Result.andThen]
theorem meth_ptr {t : TypeId} {v : Value} {name : String} {g : FuncId} {e : TypeId} (hb : ((P.info? t).bind fun i => i.methods.find? (·.name == name)).map (fun m => (m.path, m.func)) = some (#[], some (g, true))) (hu : P.underlying t = some (.pointer e)) :
    (method (P.types.size + Made.depth) t v name).run P w = .ok (g, v) w := by
  obtain ⟨m, hb, hm'⟩ := Option.map_eq_some_iff.1 hb
  obtain ⟨i, hi, hm⟩ := Option.bind_eq_some_iff.1 hb
  have hp := congrArg Prod.fst hm'
  have hf := congrArg Prod.snd hm'
  simp only at hp hf
  obtain ⟨q, hq⟩ : ∃ q, P.types.size + Made.depth = q + 1 := ⟨P.types.size + Made.depth - 1, by have : 1 ≤ Made.depth := by decide
                                                                                                omega⟩
  rw [hq]
  unfold method
  simp [typeInfo, hi, hm, hp, follow, hf, receiverAt, run_underlying hu w, Place.get, Result.andThen]
theorem meth_emb {t S xt : TypeId} {b : Nat} {name : String} {g : FuncId} {fs : Array Field} {q : Field} {u : Value} {e : TypeId} (hb : ((P.info? t).bind fun i => i.methods.find? (·.name == name)).map (fun m => (m.path, m.func)) = some (#[⟨S, 0, true⟩], some (g, false)))
    (hS : P.underlying S = some (.struct fs)) (hq : fs[0]? = some q) (hqt : q.type = xt) (hqo : q.offset = 0) (hsz : (P.info? xt).map (fun i => Nat.blt 0 i.size) = some true) (hx : P.underlying xt = some (.slice e)) (hc : w.cell? ⟨b, 0, none⟩ = some u) :
    (method (P.types.size + Made.depth) t (.pointer (some ⟨b, 0, none⟩)) name).run P w = .ok (g, u) w := by
  obtain ⟨m, hb, hm'⟩ := Option.map_eq_some_iff.1 hb
  obtain ⟨i, hi, hm⟩ := Option.bind_eq_some_iff.1 hb
  have hp := congrArg Prod.fst hm'
  have hf := congrArg Prod.snd hm'
  simp only at hp hf
  obtain ⟨n, hn⟩ : ∃ n, P.types.size + Made.depth = n + 1 := ⟨P.types.size + Made.depth - 1, by have : 1 ≤ Made.depth := by decide
                                                                                                omega⟩
  rw [hn]
  unfold method
  have hpl : ∀ w', (fieldPlace ⟨b, 0, none⟩ q).run P w' = .ok ⟨b, 0, none⟩ w' := fun w' => by
    obtain ⟨j, hj, h⟩ := Option.map_eq_some_iff.1 hsz
    have hlt := lt_of_blt h
    simp [fieldPlace, hqt, sizeOf, typeInfo, hj, show j.size ≠ 0 by omega, hqo, Addr.add_mid]
  have hagg : (isAgg xt).run P w = .ok false w := by
    unfold isAgg
    rw [Sem.run_bind, run_underlying hx w]
    rfl
  have hload : (loadVar xt ⟨b, 0, none⟩).run P w = .ok u w := by
    unfold loadVar
    simp [hagg, hc, Result.andThen]
  simp [typeInfo, hi, hm, hp, follow, run_underlying hS w, hq, Place.get, asAddr, hpl, hqt, hf, receiverAt, run_underlying hx w, hload, Result.andThen]
theorem rl_invoke {fo : Operand} {xs : Array Operand} {ats : Array TypeId} {name : String} {g : FuncId} {t : TypeId} {rv rcv : Value} {vs : List Value} {d : Nat} {Post : Ending → World → Prop} (hcl : Callable P g) (hg : o.guard = none) (hd : o.dst = some d) (hN : Nat.blt d N = true)
  (ho : o.op = .call { callee := .invoke fo name, args := xs, argTypes := ats }) (hf : Fr.ev F fo = some (.iface t rv)) (hm : (method (P.types.size + Made.depth) t rv name).run P w = .ok (g, rcv) w) (hx : Fr.evs F xs.toList = some vs)
  (hC : Calls P g (#[rcv] ++ vs.toArray) w Post) (h : ∀ e w', Post e w' → ∃ v, e = .returned v ∧ RL P f N ops rest k ((d, v) :: F) w' R) : RL P f N ops (o :: rest) k F w R := by
 intro a ha
 refine wpList_plain hg fun K hK => ?_
 have hargs : xs.map a.eval = vs.toArray := by
  apply Array.ext'
  simpa using ha.evs hx
 have hex : (#[Value.iface t rv] ++ vs.toArray).extract 1 (#[Value.iface t rv] ++ vs.toArray).size = vs.toArray := by
  apply Array.ext'
  simp
 have hrun : (execOp a.eval o).run P w = .ok (.enter g (#[rcv] ++ vs.toArray)) w := by
  unfold execOp
  simp only [ho, resolve, Sem.run_bind, ha.ev hf, hargs]
  simp only [Sem.run_pure, Result.andThen_ok]
  unfold invoke
  simp only
  have h0 : (#[Value.iface t rv] ++ vs.toArray)[0]? = some (Value.iface t rv) := by simp
  rw [h0]
  simp only [hex]
  unfold callMethod
  simp [hm, run_callFunc hcl, Result.andThen]
 unfold Oper.wp
 rw [hrun]
 refine hC.mono fun e w' hp => ?_
 obtain ⟨v, rfl, hv⟩ := h e w' hp
 show K (a.put o.dst v) w'
 rw [hd]
 exact hK _ _ (hv _ (ha.put (lt_of_blt hN) v))
theorem rl_ginvoke {j gs : Nat} {bb : Bool} {fo : Operand} {xs : Array Operand} {ats : Array TypeId} {name : String} {g : FuncId} {t : TypeId} {rv rcv : Value} {vs : List Value} {d : Nat} {Post : Ending → World → Prop} (hcl : Callable P g)
  (hg : o.guard = some (j, bb)) (hj : (ops[j]?).bind (·.dst) = some gs) (hb : Fr.get F gs = some (.bool bb)) (hd : o.dst = some d) (hN : Nat.blt d N = true)
  (ho : o.op = .call { callee := .invoke fo name, args := xs, argTypes := ats }) (hf : Fr.ev F fo = some (.iface t rv)) (hm : (method (P.types.size + Made.depth) t rv name).run P w = .ok (g, rcv) w) (hx : Fr.evs F xs.toList = some vs)
  (hC : Calls P g (#[rcv] ++ vs.toArray) w Post) (h : ∀ e w', Post e w' → ∃ v, e = .returned v ∧ RL P f N ops rest k ((d, v) :: F) w' R) : RL P f N ops (o :: rest) k F w R := by
 intro a ha
 refine wpList_step fun K hK => ?_
 have hw : Region.wanted o (yielded ops a.tmps) = true := by simp [Region.wanted, hg, yielded_of ha hj hb]
 rw [if_pos hw]
 have hargs : xs.map a.eval = vs.toArray := by
  apply Array.ext'
  simpa using ha.evs hx
 have hex : (#[Value.iface t rv] ++ vs.toArray).extract 1 (#[Value.iface t rv] ++ vs.toArray).size = vs.toArray := by
  apply Array.ext'
  simp
 have hrun : (execOp a.eval o).run P w = .ok (.enter g (#[rcv] ++ vs.toArray)) w := by
  unfold execOp
  simp only [ho, resolve, Sem.run_bind, ha.ev hf, hargs]
  simp only [Sem.run_pure, Result.andThen_ok]
  unfold invoke
  simp only
  have h0 : (#[Value.iface t rv] ++ vs.toArray)[0]? = some (Value.iface t rv) := by simp
  rw [h0]
  simp only [hex]
  unfold callMethod
  simp [hm, run_callFunc hcl, Result.andThen]
 unfold Oper.wp
 rw [hrun]
 refine hC.mono fun e w' hp => ?_
 obtain ⟨v, rfl, hv⟩ := h e w' hp
 show K (a.put o.dst v) w'
 rw [hd]
 exact hK _ _ (hv _ (ha.put (lt_of_blt hN) v))
theorem ow_storeE2 {T E : TypeId} {p x : Operand} {b n cap B kk : Nat} {w0 : World} {H : List (Option Blk)} {G : Int → List Value} {c : Option Blk} {ao : Option Addr} {i : Int} {v0 v1 : Value} (hd : o.dst = none) (ho : o.op = .store T p x) (hi : (P.info? T).map (·.size) = some 2)
  (hO : Own B w0 w H) (hr : SRow (.slice ao n cap) E 2 n G c) (hk : H[kk]? = some c) (hao : 0 < n → ao = some ⟨b, 0, none⟩) (hp : Fr.ev F p = some (.pointer (some ⟨b, 0 + i.toNat * 2, none⟩))) (hb : 0 ≤ i ∧ i < n) (hl : (G i).length = 2)
  (hx : Fr.ev F x = some (.agg #[v0, v1])) (h0 : v0.oneCell' = true) (h1 : v1.oneCell' = true) :
  OpW P N o F w (fun F' w' => ∃ c', F' = F ∧ Own B w0 w' (H.set kk c') ∧ SRow (.slice ao n cap) E 2 n (upd G i [v0, v1]) c' ∧ w'.heap.size = w.heap.size) := by
 obtain ⟨c1, q2, q3, q4, q5⟩ := hr.store hO kk hk rfl hao i hb.1 hb.2 0 (by omega) hl v0
 have hkl : kk < H.length := (List.getElem?_eq_some_iff.1 hk).1
 obtain ⟨c2, r2, r3, r4, r5⟩ := q3.store q2 kk (by simp [hkl]) rfl hao i hb.1 hb.2 1 (by omega) (by rw [upd_same]; simp [hl]) v1
 obtain ⟨_, _, _, s4, s5⟩ := hr.store hO kk hk rfl hao i hb.1 hb.2 1 (by omega) hl v1
 rw [List.set_set] at r2
 refine (ow_u (w' := w.setCells b (0 + i.toNat * 2) [v0, v1]) hd (fun a ha => ?_)).mono fun F' w' ⟨e1, e2⟩ => ⟨c2, e1, by rw [e2]; exact r2, r3.congr fun j j0 j1 => ?_, by rw [e2]; exact size_setCells _ _ _ _⟩
 ·have hrun := run_storeAt_mid (P := P) w b (0 + i.toNat * 2) T #[v0, v1] (fun j hj => by
   have hj' : j = 0 ∨ j = 1 := by simp at hj; omega
   rcases hj' with rfl | rfl
   ·exact ⟨q4, q5⟩
   ·exact ⟨s4, s5⟩) (by simpa using hi) (by simp [h0, h1])
  unfold execOp
  simp only [ho, ha.ev hp, ha.ev hx, Sem.run_bind, hrun, Result.andThen_ok, Sem.run_pure]
 ·unfold upd
  by_cases e : j = i
  ·simp only [e, if_true]
   match hg : G i, hl with
   | [a0, a1], _ => simp
  ·simp only [if_neg e]
end
end Go.Proofs.Ytfbbagnpdfafjaa
set_option maxRecDepth 100000
namespace Go.Proofs.Ytfbbagnpdfafjaa
open Go.RowKit Go.Proofs
abbrev iv (n : Int) : Value := .int .i64 n
abbrev ptr (b : Nat) : Value := .pointer (some ⟨b, 0, none⟩)
def SrcI (H : List (Option Blk)) (ao : Option Addr) (n : Nat) (g : Int → Int) : Prop := ∀ (B : Nat) (w0 w : World), Own B w0 w H → IAt w.heap.size w ao n (fun i => iv (g i))
section
variable {P : Program} {f N : Nat} {k : List Item} {F : Fr} {w : World} {R : Ending → World → Prop} {o : Oper} {B : Nat} {w0 : World} {H : List (Option Blk)}
theorem ow_storeS {T E : TypeId} {p x : Operand} {b n cap kk s : Nat} {G : Int → List Value} {c : Option Blk} {ao : Option Addr} {i : Int} {us : List Value} (hd : o.dst = none) (ho : o.op = .store T p x) (hi : (P.info? T).map (·.size) = some us.length)
  (hO : Own B w0 w H) (hr : SRow (.slice ao n cap) E s n G c) (hk : H[kk]? = some c) (hao : 0 < n → ao = some ⟨b, 0, none⟩) (hp : Fr.ev F p = some (.pointer (some ⟨b, 0 + i.toNat * s, none⟩))) (hb : 0 ≤ i ∧ i < n) (hl : us.length = s)
  (hx : Fr.ev F x = some (.agg us.toArray)) (h1 : us.all (·.oneCell') = true) :
  OpW P N o F w (fun F' w' => ∃ c', F' = F ∧ Own B w0 w' (H.set kk c') ∧ SRow (.slice ao n cap) E s n (upd G i us) c' ∧ w'.heap.size = w.heap.size) := by
 rcases hr with ⟨h, rfl, rfl⟩ | ⟨b', cap', g, h, h2, h3, rfl, h5⟩
 ·omega
 cases h
 have := hao (by omega)
 simp only [Option.some.injEq, Addr.mk.injEq] at this
 obtain rfl := this.1
 have hin : i.toNat < n := by omega
 have hfit : i.toNat * s + s ≤ cap * s := by
  have := Nat.mul_le_mul_right s (show i.toNat + 1 ≤ cap by omega)
  rw [Nat.add_mul] at this; omega
 refine (ow_u (w' := w.setCells b' (0 + i.toNat * s) us) hd (fun a ha => ?_)).mono fun F' w' ⟨e1, e2⟩ => ⟨some ⟨b', E, cap * s, fun j => if 0 + i.toNat * s ≤ j ∧ j < 0 + i.toNat * s + us.length then us.getD (j - (0 + i.toNat * s)) undef else g j, none⟩, e1, by rw [e2]; exact hO.storeN us kk hk (0 + i.toNat * s), .inr ⟨b', cap, _, rfl, h2, h3, rfl, fun j hj => ?_⟩, by rw [e2]; exact size_setCells _ _ _ _⟩
 ·have hrun := run_storeAt_mid (P := P) w b' (0 + i.toNat * s) T us.toArray (fun j hj => by
   have hj' : j < us.length := by simpa using hj
   have hlt : 0 + i.toNat * s + j < cap * s := by omega
   exact ⟨Option.isSome_iff_exists.2 ⟨_, hO.cell kk hk _ hlt⟩, (hO.get kk hk).frozen _⟩) (by simpa using hi) (by simpa using h1)
  unfold execOp
  simp only [ho, ha.ev hp, ha.ev hx, Sem.run_bind, hrun, Result.andThen_ok, Sem.run_pure]
 ·have hs : 0 < s := Nat.pos_of_ne_zero fun e => by subst e; simp at hj
  have hdm := Nat.div_add_mod j s
  rw [Nat.mul_comm] at hdm
  have hm := Nat.mod_lt j hs
  dsimp only
  by_cases e : j / s = i.toNat
  ·have e2 : ((j / s : Nat) : Int) = i := by omega
   rw [e] at hdm
   rw [e2, upd_same, if_pos (by omega), show j - (0 + i.toNat * s) = j % s by omega]
  ·have e2 : ((j / s : Nat) : Int) ≠ i := by omega
   rw [upd_ne _ _ e2, if_neg, h5 j hj]
   intro ⟨c1, c2⟩
   have q1 : i.toNat ≤ j / s := (Nat.le_div_iff_mul_le hs).2 (by omega)
   have q2 : j / s < i.toNat + 1 := Nat.div_lt_of_lt_mul (by rw [Nat.mul_comm, Nat.add_mul]; omega)
   omega
theorem ow_makeS {T E : TypeId} {l c : Operand} {z : Value} {by_ s : Nat} {k1 k2 : IntKind} {i j : Int} {d : Nat} (n : Nat) (zs : List Value) (hd : o.dst = some d) (hN : Nat.blt d N = true) (ho : o.op = .makeSlice T l c)
  (hT : P.underlying T = some (.slice E)) (hinfo : (P.info? E).map (fun i => (i.zero, i.size, i.bytes)) = some (some z, s, by_)) (hz : z.cells = zs.toArray) (hs : zs.length = s)
  (hO : Own B w0 w H) (hl : Fr.ev F l = some (.int k1 i)) (hc : Fr.ev F c = some (.int k2 j)) (hi : i = n) (hj : j = n) (hb : by_ * n ≤ 140737488355328 ∧ n ≤ 4000000000000) :
  OpW P N o F w (fun F' w' => ∃ b c', F' = (d, .slice (some ⟨b, 0, none⟩) n n) :: F ∧ Own B w0 w' (c' :: H) ∧ SRow (.slice (some ⟨b, 0, none⟩) n n) E s n (fun _ => zs) c' ∧ Below w.heap.size w w') := by
 subst hi; subst hj
 obtain ⟨q, hq, hq0, rfl, rfl⟩ := info_parts hinfo
 have hb' : (q.bytes : Int) * (n : Int) ≤ 281474976710656 := by
  have h : ((q.bytes * n : Nat) : Int) ≤ 281474976710656 := by omega
  rwa [Int.natCast_mul] at h
 have hrun := run_make (P := P) w T E q z hT hq hq0 k1 k2 n n (by omega) (Int.le_refl _) hb' (by omega)
 simp only [Int.toNat_natCast] at hrun
 refine (ow_w (v := .slice (some ⟨w.heap.size, 0, none⟩) n n) (w' := w.alloc (.cells (madeCells z.cells (n * q.size)) E)) hd hN (fun a ha => ?_)).mono fun F' w' ⟨h1, h2⟩ => ⟨w.heap.size, some ⟨w.heap.size, E, n * q.size, fun j => zs.getD (j % q.size) undef, none⟩, h1, ?_, .inr ⟨_, n, _, rfl, Nat.le_refl _, by unfold maxLen; omega, rfl, fun j _ => rfl⟩, by rw [h2]; exact (Below.refl _ _).alloc (Nat.le_refl _) _⟩
 ·unfold execOp
  simp only [ho, ha.ev hl, ha.ev hc, Sem.run_bind, hrun, Result.andThen_ok, Sem.run_pure]
 ·rw [h2]
  refine hO.alloc _ E (n * q.size) _ (size_madeCells _ _) fun j hj => ?_
  have hlt : j % zs.length < zs.length := Nat.mod_lt _ (by rw [hs]; exact Nat.pos_of_ne_zero fun e => by rw [e] at hj; simp at hj)
  simp [madeCells, hj, hz, List.getD_eq_getElem?_getD, hs]
  rw [hs] at hlt
  rw [List.getElem?_eq_getElem (by rw [hs]; exact hlt)]
  rfl
end
theorem resW2 {P : Program} {N : Nat} {F : Fr} {w : World} {fn : Func} {t u ty : Nat} {b B : Nat} {t2 : TypeId} {w0 : World} {H : List (Option Blk)} {dd : TypeDesc} {vs : List Value} {x : Value} (hr : fn.results = #[.cell t ty, .tmp u]) (hv : Fr.get F t = some (.pointer (some ⟨b, 0, none⟩))) (hx : Fr.get F u = some x)
  (hT : P.underlying ty = some dd) (hd : dd.isRow = true) (hi : (P.info? ty).map (·.size) = some vs.length) (hO : Own B w0 w H) (k : Nat) (hk : H[k]? = some (some (lch b t2 vs))) : ∀ a, Holds N F a → (results fn a.tmps).run P w = .ok (.tuple #[.agg vs.toArray, x]) w := by
 intro a ha
 have h1 := ha.at_ t _ hv
 have h3 := ha.at_ u _ hx
 have h2 := run_loadVar_mid (P := P) w b 0 ty vs dd (hO.rangeL k hk) hT hd hi
 simp [results, hr, Array.getD_eq_getD_getElem?, h1, h3, asAddr, h2, Result.andThen]
end Go.Proofs.Ytfbbagnpdfafjaa
