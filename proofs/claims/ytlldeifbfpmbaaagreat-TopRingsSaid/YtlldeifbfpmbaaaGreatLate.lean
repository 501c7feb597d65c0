import Derived.Test.YtlldeifbfpmbaaaGreatArr
import Derived.MapKept
import Derived.Test.YtlldeifbfpmbaaaGreatHeld
set_option maxRecDepth 100000
namespace Go.Proofs.YtlldeifbfpmbaaaGreat
open Go.RowKit
section
variable {P : Program} {f N : Nat} {o : Oper} {F : Fr} {w : World} {k : List Item} {R : Ending → World → Prop} {ops : Array Oper} {rest : List Oper}
theorem ov_assert {T xT : TypeId} {x : Operand} {v : Value} {dd : TypeDesc} (ho : o.op = .typeAssert x xT T false) (hT : P.underlying T = some dd) (hd : (match dd with | .interface _ => false | _ => true) = true) (hx : Fr.ev F x = some (.iface T v)) : OpV P N o F w v := by
 intro a ha
 unfold execOp
 rw [ho]
 have h1 : (Instr.typeAssert (.iface T v) xT T false).run P w = .ok v w := by
  unfold Instr.typeAssert
  rw [Sem.run_bind, run_underlying hT w]
  cases dd <;> simp_all
 simp [ha.ev hx, h1, Result.andThen]
theorem meth_ptr {t : TypeId} {v : Value} {name : String} {g : FuncId} {e : TypeId} (hb : ((P.info? t).bind fun i => i.methods.find? (·.name == name)).map (fun m => (m.path, m.func)) = some (#[], some (g, true))) (hu : P.underlying t = some (.pointer e)) :
    (method (P.types.size + Made.depth) t v name).run P w = .ok (g, v) w := by
  obtain ⟨m, hb, hm'⟩ := Option.map_eq_some_iff.1 hb
  obtain ⟨i, hi, hm⟩ := Option.bind_eq_some_iff.1 hb
  have hp := congrArg Prod.fst hm'
  have hf := congrArg Prod.snd hm'
  simp only at hp hf
  obtain ⟨q, hq⟩ : ∃ q, P.types.size + Made.depth = q + 1 := ⟨P.types.size + Made.depth - 1, by have : 1 ≤ Made.depth := by decide
                                                                                                omega⟩
  rw [hq]
  unfold method
  simp [typeInfo, hi, hm, hp, follow, hf, receiverAt, run_underlying hu w, Place.get, Result.andThen]
theorem meth_emb {t S xt : TypeId} {b : Nat} {name : String} {g : FuncId} {fs : Array Field} {q : Field} {u : Value} {e : TypeId} (hb : ((P.info? t).bind fun i => i.methods.find? (·.name == name)).map (fun m => (m.path, m.func)) = some (#[⟨S, 0, true⟩], some (g, false)))
    (hS : P.underlying S = some (.struct fs)) (hq : fs[0]? = some q) (hqt : q.type = xt) (hqo : q.offset = 0) (hsz : (P.info? xt).map (fun i => Nat.blt 0 i.size) = some true) (hx : P.underlying xt = some (.slice e)) (hc : w.cell? ⟨b, 0, none⟩ = some u) :
    (method (P.types.size + Made.depth) t (.pointer (some ⟨b, 0, none⟩)) name).run P w = .ok (g, u) w := by
  obtain ⟨m, hb, hm'⟩ := Option.map_eq_some_iff.1 hb
  obtain ⟨i, hi, hm⟩ := Option.bind_eq_some_iff.1 hb
  have hp := congrArg Prod.fst hm'
  have hf := congrArg Prod.snd hm'
  simp only at hp hf
  obtain ⟨n, hn⟩ : ∃ n, P.types.size + Made.depth = n + 1 := ⟨P.types.size + Made.depth - 1, by have : 1 ≤ Made.depth := by decide
                                                                                                omega⟩
  rw [hn]
  unfold method
  have hpl : ∀ w', (fieldPlace ⟨b, 0, none⟩ q).run P w' = .ok ⟨b, 0, none⟩ w' := fun w' => by
    obtain ⟨j, hj, h⟩ := Option.map_eq_some_iff.1 hsz
    have hlt := lt_of_blt h
    simp [fieldPlace, hqt, sizeOf, typeInfo, hj, show j.size ≠ 0 by omega, hqo, Addr.add_mid]
  have hagg : (isAgg xt).run P w = .ok false w := by
    unfold isAgg
    rw [Sem.run_bind, run_underlying hx w]
    rfl
  have hload : (loadVar xt ⟨b, 0, none⟩).run P w = .ok u w := by
    unfold loadVar
    simp [hagg, hc, Result.andThen]
  simp [typeInfo, hi, hm, hp, follow, run_underlying hS w, hq, Place.get, asAddr, hpl, hqt, hf, receiverAt, run_underlying hx w, hload, Result.andThen]
theorem rl_invoke {fo : Operand} {xs : Array Operand} {ats : Array TypeId} {name : String} {g : FuncId} {t : TypeId} {rv rcv : Value} {vs : List Value} {d : Nat} {Post : Ending → World → Prop} (hcl : Callable P g) (hg : o.guard = none) (hd : o.dst = some d) (hN : Nat.blt d N = true)
  (ho : o.op = .call { callee := .invoke fo name, args := xs, argTypes := ats }) (hf : Fr.ev F fo = some (.iface t rv)) (hm : (method (P.types.size + Made.depth) t rv name).run P w = .ok (g, rcv) w) (hx : Fr.evs F xs.toList = some vs)
  (hC : Calls P g (#[rcv] ++ vs.toArray) w Post) (h : ∀ e w', Post e w' → ∃ v, e = .returned v ∧ RL P f N ops rest k ((d, v) :: F) w' R) : RL P f N ops (o :: rest) k F w R := by
 intro a ha
 refine wpList_plain hg fun K hK => ?_
 have hargs : xs.map a.eval = vs.toArray := by
  apply Array.ext'
  simpa using ha.evs hx
 have hex : (#[Value.iface t rv] ++ vs.toArray).extract 1 (#[Value.iface t rv] ++ vs.toArray).size = vs.toArray := by
  apply Array.ext'
  simp
 have hrun : (execOp a.eval o).run P w = .ok (.enter g (#[rcv] ++ vs.toArray)) w := by
  unfold execOp
  simp only [ho, resolve, Sem.run_bind, ha.ev hf, hargs]
  simp only [Sem.run_pure, Result.andThen_ok]
  unfold invoke
  simp only
  have h0 : (#[Value.iface t rv] ++ vs.toArray)[0]? = some (Value.iface t rv) := by simp
  rw [h0]
  simp only [hex]
  unfold callMethod
  simp [hm, run_callFunc hcl, Result.andThen]
 unfold Oper.wp
 rw [hrun]
 refine hC.mono fun e w' hp => ?_
 obtain ⟨v, rfl, hv⟩ := h e w' hp
 show K (a.put o.dst v) w'
 rw [hd]
 exact hK _ _ (hv _ (ha.put (lt_of_blt hN) v))
theorem rl_ginvoke {j gs : Nat} {bb : Bool} {fo : Operand} {xs : Array Operand} {ats : Array TypeId} {name : String} {g : FuncId} {t : TypeId} {rv rcv : Value} {vs : List Value} {d : Nat} {Post : Ending → World → Prop} (hcl : Callable P g)
  (hg : o.guard = some (j, bb)) (hj : (ops[j]?).bind (·.dst) = some gs) (hb : Fr.get F gs = some (.bool bb)) (hd : o.dst = some d) (hN : Nat.blt d N = true)
  (ho : o.op = .call { callee := .invoke fo name, args := xs, argTypes := ats }) (hf : Fr.ev F fo = some (.iface t rv)) (hm : (method (P.types.size + Made.depth) t rv name).run P w = .ok (g, rcv) w) (hx : Fr.evs F xs.toList = some vs)
  (hC : Calls P g (#[rcv] ++ vs.toArray) w Post) (h : ∀ e w', Post e w' → ∃ v, e = .returned v ∧ RL P f N ops rest k ((d, v) :: F) w' R) : RL P f N ops (o :: rest) k F w R := by
 intro a ha
 refine wpList_step fun K hK => ?_
 have hw : Region.wanted o (yielded ops a.tmps) = true := by simp [Region.wanted, hg, yielded_of ha hj hb]
 rw [if_pos hw]
 have hargs : xs.map a.eval = vs.toArray := by
  apply Array.ext'
  simpa using ha.evs hx
 have hex : (#[Value.iface t rv] ++ vs.toArray).extract 1 (#[Value.iface t rv] ++ vs.toArray).size = vs.toArray := by
  apply Array.ext'
  simp
 have hrun : (execOp a.eval o).run P w = .ok (.enter g (#[rcv] ++ vs.toArray)) w := by
  unfold execOp
  simp only [ho, resolve, Sem.run_bind, ha.ev hf, hargs]
  simp only [Sem.run_pure, Result.andThen_ok]
  unfold invoke
  simp only
  have h0 : (#[Value.iface t rv] ++ vs.toArray)[0]? = some (Value.iface t rv) := by simp
  rw [h0]
  simp only [hex]
  unfold callMethod
  simp [hm, run_callFunc hcl, Result.andThen]
 unfold Oper.wp
 rw [hrun]
 refine hC.mono fun e w' hp => ?_
 obtain ⟨v, rfl, hv⟩ := h e w' hp
 show K (a.put o.dst v) w'
 rw [hd]
 exact hK _ _ (hv _ (ha.put (lt_of_blt hN) v))
theorem ow_storeE2 {T E : TypeId} {p x : Operand} {b n cap B kk : Nat} {w0 : World} {H : List (Option Blk)} {G : Int → List Value} {c : Option Blk} {ao : Option Addr} {i : Int} {v0 v1 : Value} (hd : o.dst = none) (ho : o.op = .store T p x) (hi : (P.info? T).map (·.size) = some 2)
  (hO : Own B w0 w H) (hr : SRow (.slice ao n cap) E 2 n G c) (hk : H[kk]? = some c) (hao : 0 < n → ao = some ⟨b, 0, none⟩) (hp : Fr.ev F p = some (.pointer (some ⟨b, 0 + i.toNat * 2, none⟩))) (hb : 0 ≤ i ∧ i < n) (hl : (G i).length = 2)
  (hx : Fr.ev F x = some (.agg #[v0, v1])) (h0 : v0.oneCell' = true) (h1 : v1.oneCell' = true) :
  OpW P N o F w (fun F' w' => ∃ c', F' = F ∧ Own B w0 w' (H.set kk c') ∧ SRow (.slice ao n cap) E 2 n (upd G i [v0, v1]) c' ∧ w'.heap.size = w.heap.size) := by
 obtain ⟨c1, q2, q3, q4, q5⟩ := hr.store hO kk hk rfl hao i hb.1 hb.2 0 (by omega) hl v0
 have hkl : kk < H.length := (List.getElem?_eq_some_iff.1 hk).1
 obtain ⟨c2, r2, r3, r4, r5⟩ := q3.store q2 kk (by simp [hkl]) rfl hao i hb.1 hb.2 1 (by omega) (by rw [upd_same]; simp [hl]) v1
 obtain ⟨_, _, _, s4, s5⟩ := hr.store hO kk hk rfl hao i hb.1 hb.2 1 (by omega) hl v1
 rw [List.set_set] at r2
 refine (ow_u (w' := w.setCells b (0 + i.toNat * 2) [v0, v1]) hd (fun a ha => ?_)).mono fun F' w' ⟨e1, e2⟩ => ⟨c2, e1, by rw [e2]; exact r2, r3.congr fun j j0 j1 => ?_, by rw [e2]; exact size_setCells _ _ _ _⟩
 ·have hrun := run_storeAt_mid (P := P) w b (0 + i.toNat * 2) T #[v0, v1] (fun j hj => by
   have hj' : j = 0 ∨ j = 1 := by simp at hj; omega
   rcases hj' with rfl | rfl
   ·exact ⟨q4, q5⟩
   ·exact ⟨s4, s5⟩) (by simpa using hi) (by simp [h0, h1])
  unfold execOp
  simp only [ho, ha.ev hp, ha.ev hx, Sem.run_bind, hrun, Result.andThen_ok, Sem.run_pure]
 ·unfold upd
  by_cases e : j = i
  ·simp only [e, if_true]
   match hg : G i, hl with
   | [a0, a1], _ => simp
  ·simp only [if_neg e]
end
end Go.Proofs.YtlldeifbfpmbaaaGreat
set_option maxRecDepth 100000
namespace Go.Proofs.YtlldeifbfpmbaaaGreat
open Go.RowKit Go.Proofs
abbrev iv (n : Int) : Value := .int .i64 n
abbrev ptr (b : Nat) : Value := .pointer (some ⟨b, 0, none⟩)
section
variable {P : Program} {f N : Nat} {k : List Item} {F : Fr} {w : World} {R : Ending → World → Prop} {o : Oper} {B : Nat} {w0 : World} {H : List (Option Blk)}
theorem run_once {c : Code} (h : Run P f N (.code c :: .inLoop c :: k) F w R) : Run P f N (.code (.loop c) :: k) F w R := fun a ha => RunA.of_step (fun _ => .one step_loop) (h a ha)
theorem run_again {c : Code} (h : Run P f N (.code c :: .inLoop c :: k) F w R) : Run P f N (.inLoop c :: k) F w R := fun a ha => RunA.of_step (fun _ => .one step_inLoop) (h a ha)
end
end Go.Proofs.YtlldeifbfpmbaaaGreat
namespace Go.Proofs.YtlldeifbfpmbaaaGreat
open Go.RowKit
section
variable {P : Program} {f N : Nat} {k : List Item} {F : Fr} {w : World} {R : Ending → World → Prop} {ops : Array Oper} {o : Oper} {S : World → Prop} {fuel L : Nat} {listed : Array Bool} {Q : Exit → Act → World → Prop}
def wpLate (P : Program) (ops : Array Oper) (Q : Exit → Act → World → Prop) (S : World → Prop) (L : Nat) : Nat → Array Bool → Act → World → Prop
 | 0, listed, a, w => Region.ready .any ops listed = [] ∧ Q .normal a w
 | fuel + 1, listed, a, w => (Region.ready .any ops listed = [] → Q .normal a w) ∧ ∀ i ∈ Region.ready .any ops listed, wpOp P ops Q i (fun a' w' => (i = L ∨ S w') ∧ wpLate P ops Q S L fuel (listed.setIfInBounds i true) a' w') a w
theorem any_of_late : ∀ (fuel : Nat) (listed : Array Bool) (a : Act) (w : World), wpLate P ops Q S L fuel listed a w → wpAny P .any ops Q fuel listed a w
 | 0, _, _, _, h => h
 | fuel + 1, _, _, _, h => ⟨h.1, fun i hi => wpOp_mono (fun a' w' h' => any_of_late fuel _ a' w' h'.2) (h.2 i hi)⟩
def waitsB (ops : Array Oper) (L i : Nat) : Bool := ((ops[L]?).map fun o => o.after.any fun e => Region.binds .any e && e.on == i).getD false
theorem waits_spec {i : Nat} (h : waitsB ops L i = true) (hr : L ∈ Region.ready .any ops listed) : listed.getD i false = true := by
 obtain ⟨_, o, ho, hall⟩ := mem_ready.1 hr
 unfold waitsB at h
 rw [ho] at h
 simp only [Option.map_some, Option.getD_some, Array.any_eq_true, Bool.and_eq_true, beq_iff_eq] at h
 obtain ⟨j, hj, h1, h2⟩ := h
 rw [← h2]
 exact hall _ (Array.getElem_mem hj) h1
theorem late_first {i : Nat} {oi : Oper} {v : Value} (hi : ops[i]? = some oi) (hsel : ∀ (j : Nat) (o : Oper) cs b, ops[j]? = some o → o.op ≠ .select cs b)
  (hQ : ∀ c a w, Q (.panic c) (a.put oi.dst v) w → Q (.panic c) a w) (hL : waitsB ops L i = true) :
  ∀ (fuel : Nat) (listed : Array Bool) (a : Act) (w : World),
   (∀ j oj, ops[j]? = some oj → j ≠ i → listed.getD j true = false → (∀ e ∈ oj.after, Region.binds .any e = true → e.on ≠ i) → oi.apart ops oj = true) →
   i ∈ Region.ready .any ops listed → YieldsIf P ops S oi v a → S w →
   wpLate P ops Q S L fuel (listed.setIfInBounds i true) (a.put oi.dst v) w → wpLate P ops Q S L (fuel + 1) listed a w := by
 intro fuel
 induction fuel with
 | zero =>
  intro listed a w _ hr hy hS H
  refine ⟨fun h => (by rw [h] at hr; cases hr), fun j hj => ?_⟩
  by_cases hji : j = i
  ·subst hji; exact hy.wpOp hi hS ⟨.inr hS, H⟩
  ·have := ready_mono hj hji
   rw [H.1] at this
   cases this
 | succ fuel ih =>
  intro listed a w hfree hr hy hS H
  refine ⟨fun h => (by rw [h] at hr; cases hr), fun j hj => ?_⟩
  by_cases hji : j = i
  ·subst hji; exact hy.wpOp hi hS ⟨.inr hS, H⟩
  ·have hout : ∀ b : Bool, listed.getD i false = true → listed.getD i true = false → False := fun _ h1 h0 => by
    rcases Nat.lt_or_ge i listed.size with h' | h'
    ·simp [h'] at h0 h1; rw [h0] at h1; cases h1
    ·simp [Array.getElem?_eq_none h'] at h1
   have h0 := (mem_ready.1 hr).1
   have hjL : j ≠ L := fun e => hout true (waits_spec hL (e ▸ hj)) h0
   have h1 := H.2 j (ready_mono hj hji)
   obtain ⟨hjun, oj, hoj, hall⟩ := mem_ready.1 hj
   have hnot : ∀ e ∈ oj.after, Region.binds .any e = true → e.on ≠ i := fun e he hb heq => by
    have h1 := hall e he hb
    rw [heq] at h1
    exact hout true h1 h0
   have h2 := wpOp_putIf hoj (hfree j oj hoj hji hjun hnot) (fun cs b => hsel i oi cs b hi) (fun cs b => hsel j oj cs b hoj) hQ hy h1
   have hfree' : ∀ k ok, ops[k]? = some ok → k ≠ i → (listed.setIfInBounds j true).getD k true = false →
     (∀ e ∈ ok.after, Region.binds .any e = true → e.on ≠ i) → oi.apart ops ok = true := fun k ok hk hki hun hno => by
    refine hfree k ok hk hki ?_ hno
    by_cases hjk : j = k
    ·subst hjk; exact hjun
    ·rw [getD_set_ne true hjk] at hun; exact hun
   refine wpOp_mono (fun a' w' h3 => ?_) h2
   have hS' : S w' := h3.2.1.resolve_left hjL
   refine ⟨.inr hS', ih (listed.setIfInBounds j true) a' w' hfree' (ready_mono hr (Ne.symm hji)) h3.1 hS' ?_⟩
   rw [Array.setIfInBounds_comm _ _ hji]
   exact h3.2.2
def RHL (P : Program) (f N : Nat) (ops : Array Oper) (S : World → Prop) (L fuel : Nat) (listed : Array Bool) (k : List Item) (F : Fr) (w : World) (R : Ending → World → Prop) : Prop :=
 ∀ a, Holds N F a → wpLate P ops (QK P f k R) S L fuel listed a w
theorem run_late {id : Nat} {l : List Oper} (S : World → Prop) (L : Nat) (hm : P.follows .mixedOrders = true) (h : RHL P f N l.toArray S L l.length (Array.replicate l.length false) k F w.drew R) : Run P f N (.code (.region id l.toArray true) :: k) F w R :=
 fun a ha => runA_of_wp (wp_region_any hm (any_of_late _ _ _ _ (by simpa using h a ha)))
theorem rhl_v {d : Nat} {v : Value} {oi : Oper} (i : Nat) (hi : ops[i]? = some oi) (hs : (Region.noSelect ops && Region.free .any ops listed i && (Region.ready .any ops listed).contains i && waitsB ops L i) = true)
  (hg : oi.guard = none) (hd : oi.dst = some d) (hN : Nat.blt d N = true) (hS : S w) (hv : ∀ w', S w' → OpV P N oi F w' v) (h : RHL P f N ops S L fuel (listed.setIfInBounds i true) k ((d, v) :: F) w R) : RHL P f N ops S L (fuel + 1) listed k F w R := by
 intro a ha
 simp only [Bool.and_eq_true] at hs
 refine late_first hi (Region.noSelect_spec hs.1.1.1) (fun _ _ _ h => qk_put h) hs.2 fuel listed a w (Region.free_spec hi hs.1.1.2) (by simpa using hs.1.2) (v := v) (.inl ⟨by simp [Region.wanted, hg], fun w' hw' => hv w' hw' a ha⟩) hS ?_
 rw [hd]
 exact h _ (ha.put (lt_of_blt hN) v)
theorem rhl_done (hr : (Region.ready .any ops listed).isEmpty = true) (h : Run P f N k F w R) : RHL P f N ops S L fuel listed k F w R := by
 intro a ha
 have hr' : Region.ready .any ops listed = [] := by simpa using hr
 cases fuel with
 | zero => exact ⟨hr', h a ha⟩
 | succ fuel => exact ⟨fun _ => h a ha, by rw [hr']; simp⟩
def RCL (P : Program) (f N : Nat) (ops : Array Oper) (S : World → Prop) (L fuel : Nat) (listed : Array Bool) (k : List Item) (i : Nat) (F : Fr) (w : World) (R : Ending → World → Prop) : Prop :=
 ∀ a, Holds N F a → wpOp P ops (QK P f k R) i (fun a' w' => (i = L ∨ S w') ∧ wpLate P ops (QK P f k R) S L fuel (listed.setIfInBounds i true) a' w') a w
theorem rcl_op {oi : Oper} {i : Nat} {Post : Fr → World → Prop} (hi : ops[i]? = some oi) (hg : oi.guard = none) (hw : OpW P N oi F w Post)
  (h : ∀ F' w', Post F' w' → S w' ∧ RHL P f N ops S L fuel (listed.setIfInBounds i true) k F' w' R) : RCL P f N ops S L fuel listed k i F w R := by
 intro a ha
 unfold wpOp
 rw [hi]
 simp only [Region.wanted, hg, if_true]
 exact .inl (hw a ha _ _ fun F' a' w' hp ha' => ⟨.inr (h F' w' hp).1, (h F' w' hp).2 a' ha'⟩)
theorem rcl_last {oi : Oper} {Post : Fr → World → Prop} (hi : ops[L]? = some oi) (hg : oi.guard = none) (hw : OpW P N oi F w Post)
  (h : ∀ F' w', Post F' w' → RHL P f N ops S L fuel (listed.setIfInBounds L true) k F' w' R) : RCL P f N ops S L fuel listed k L F w R := by
 intro a ha
 unfold wpOp
 rw [hi]
 have hwt : Region.wanted oi (yielded ops a.tmps) = true := by simp [Region.wanted, hg]
 show (if Region.wanted oi (yielded ops a.tmps) = true then _ else _)
 rw [if_pos hwt]
 exact .inl (hw a ha _ _ fun F' a' w' hp ha' => ⟨.inl rfl, h F' w' hp a' ha'⟩)
theorem late_all {rs : List Nat} {a : Act} (hr : Region.ready .any ops listed = rs) (hne : rs ≠ [])
  (h : ∀ i ∈ rs, wpOp P ops Q i (fun a' w' => (i = L ∨ S w') ∧ wpLate P ops Q S L fuel (listed.setIfInBounds i true) a' w') a w) : wpLate P ops Q S L (fuel + 1) listed a w :=
 ⟨fun h0 => absurd (hr ▸ h0) hne, hr ▸ h⟩
theorem rhl_any1 (i : Nat) (hr : Region.ready .any ops listed = [i]) (h : RCL P f N ops S L fuel listed k i F w R) : RHL P f N ops S L (fuel + 1) listed k F w R := by
 intro a ha
 refine late_all hr (by simp) fun j hj => ?_
 obtain rfl : j = i := by simpa using hj
 exact h a ha
end
end Go.Proofs.YtlldeifbfpmbaaaGreat
