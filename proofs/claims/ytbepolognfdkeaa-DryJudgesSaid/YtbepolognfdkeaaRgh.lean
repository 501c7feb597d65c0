import Derived.Test.YtbepolognfdkeaaQui
import Derived.RangeFuncLeaves
import Derived.RangeFuncRecord
import Derived.RangeFuncSeq
import Derived.OrdersIn
import Derived.TacticsIn
import Derived.Test.YtbepolognfdkeaaRul
namespace Go.Proofs.Ytbepolognfdkeaa
open Go.RowKit
def FW (ro : Option Nat) : Fence := { Fence.wide with round := ro }
section
variable {P : Program} {f N : Nat} {k : List Item} {F : Fr} {w : World} {R : Ending → World → Prop} {ops : Array Oper} {o : Oper} {rest : List Oper} {ro : Option Nat} {n : Nat} {a : Act} {Q : Exit → Act → World → Prop}
theorem callsFW {g : FuncId} {args : Array Value} (h : Calls P g args w R) : CallsIn (FW ro) n P g args w R := by
 have h1 := (callsIn_wide (n := n)).2 h
 exact h1
theorem rowsFW {row : String} {args : Array Value} {R : Value → World → Prop} (h : Rows P row args w R) : RowsIn (FW ro) n P row args w R := fun c cs _ =>
 let ⟨v, w', r, s⟩ := h c cs
 ⟨v, w', r, stepsIn_wide.2 s⟩
theorem wpIn_of_wp {K : Act → World → Prop} (hnd : ∀ c, o.op ≠ .defer c) (h : o.wp P a w K Q) : o.wpIn (FW ro) n P a w K Q := by
 refine ⟨fun _ _ => trivial, ?_⟩
 have e : o.semAt (FW ro).round a.eval = execOp a.eval o := by
  cases ro with
  | none => unfold Oper.semAt; cases ho : o.op <;> rfl
  | some l => exact Oper.semAt_some l a.eval o hnd
 rw [e]
 unfold Oper.wp at h
 revert h
 cases hr : (execOp a.eval o).run P w with
 | ok x w' =>
  cases x with
  | value v => exact id
  | skip => exact id
  | defer d => exact id
  | enter g args => exact fun h => ⟨fun hd => absurd hd (by simp [FW, Fence.wide]), callsFW h⟩
  | row row args => exact fun h => ⟨fun hd => absurd hd (by simp [FW, Fence.wide]), rowsFW h⟩
  | _ => intro h; exact h.elim
 | halt x w' => cases x <;> intro h <;> exact h
def LI (ro : Option Nat) (n : Nat) (P : Program) (N : Nat) (ops : Array Oper) (Q : Exit → Act → World → Prop) (l : List Oper) (F : Fr) (w : World) : Prop := ∀ a, Holds N F a → wpListIn (FW ro) n P ops Q l a w
def CI (ro : Option Nat) (n : Nat) (P : Program) (N : Nat) (Q : Exit → Act → World → Prop) (c : Code) (F : Fr) (w : World) : Prop := ∀ a, Holds N F a → c.wpIn (FW ro) n P Q a w
theorem li_nil (h : ∀ a, Holds N F a → Q .normal a w) : LI ro n P N ops Q [] F w := h
theorem li_ow {Post : Fr → World → Prop} (hg : o.guard = none) (hnd : ∀ c, o.op ≠ .defer c) (hw : OpW P N o F w Post) (h : ∀ F' w', Post F' w' → LI ro n P N ops Q rest F' w') : LI ro n P N ops Q (o :: rest) F w := fun a ha =>
 wpListIn_plain hg fun K hK => wpIn_of_wp hnd (hw a ha K _ fun F' a' w' hp ha' => hK _ _ (h F' w' hp a' ha'))
theorem li_v {d : Nat} {v : Value} (hg : o.guard = none) (hnd : ∀ c, o.op ≠ .defer c) (hd : o.dst = some d) (hN : Nat.blt d N = true) (hv : OpV P N o F w v) (h : LI ro n P N ops Q rest ((d, v) :: F) w) : LI ro n P N ops Q (o :: rest) F w :=
 li_ow hg hnd (ow_v hd hN hv) fun F' w' ⟨h1, h2⟩ => by subst h1; subst h2; exact h
theorem ci_region {id : Nat} {l : List Oper} (h : LI ro n P N l.toArray Q l F w) : CI ro n P N Q (.region id l.toArray false) F w := fun a ha => wpIn_region_lit (h a ha)
theorem ci_block {id : Nat} {c : Code} (h : CI ro n P N (Exit.inBlock id Q) c F w) : CI ro n P N Q (.block id c) F w := fun a ha => wpIn_block (h a ha)
theorem wpIn_yield {l d : Nat} {fo : Operand} {xs : Array Operand} {ats : Array TypeId} {vs : List Value} {K : Act → World → Prop} {Post : Value → World → Prop} (hd : o.dst = some d) (hN : Nat.blt d N = true) (ho : o.op = .call { callee := .value fo, args := xs, argTypes := ats })
  (hf : Fr.ev F fo = some (.func (.yield l) #[] #[])) (hx : Fr.evs F xs.toList = some vs) (hY : YieldAt (FW none) 0 P l vs.toArray w fun e w' => ∃ v, e = .returned v ∧ Post v w') (ha : Holds N F a)
  (hK : ∀ v a' w', Post v w' → Holds N ((d, v) :: F) a' → K a' w') : o.wpIn (FW none) 0 P a w K Q := by
 refine ⟨fun _ _ => trivial, ?_⟩
 have hargs : xs.map a.eval = vs.toArray := by
  apply Array.ext'
  simpa using ha.evs hx
 obtain ⟨fn, tmps, assign, body, h1, h2⟩ := hY
 have hrun : (execOp a.eval o).run P w = .ok (.round l fn tmps assign body) w := by
  unfold execOp
  simp only [ho, resolve, Sem.run_bind, Deferred.ofValue, ha.ev hf, hargs]
  simp [invoke, Result.andThen, h1]
 have e : o.semAt (FW none).round a.eval = execOp a.eval o := by unfold Oper.semAt; cases ho : o.op <;> rfl
 rw [e, hrun]
 refine ⟨fun hd => absurd hd (by simp [FW, Fence.wide]), ?_⟩
 refine RoundIn.mono h2 fun e w' he => ?_
 obtain ⟨v, rfl, hp⟩ := he
 rw [hd]
 exact hK v _ w' hp (ha.put (lt_of_blt hN) v)
end
end Go.Proofs.Ytbepolognfdkeaa
namespace Go.Proofs.Ytbepolognfdkeaa
open Go.RowKit
def och (b : Nat) (o : Obj) : Blk := ⟨b, 0, 0, fun _ => undef, some o⟩
section
variable {B : Nat} {w0 w : World} {H : List (Option Blk)}
theorem Own.atO (h : Own B w0 w H) (k : Nat) {b : Nat} {o : Obj} (hk : H[k]? = some (some (och b o))) : w.heap[b]? = some o := h.gets k hk
theorem Own.allocO (h : Own B w0 w H) (o : Obj) : Own B w0 (w.alloc o) (some (och w.heap.size o) :: H) := by
 have hp := h.past ((Below.refl _ w).alloc (Nat.le_refl _) o)
 refine hp.consB (x := och w.heap.size o) ?_ h.size fun y hy => ?_
 ·show (w.alloc o).heap[w.heap.size]? = some o
  exact World.alloc_heap_new w o
 ·have := blkIs.lt (h.at_ y hy)
  show w.heap.size ≠ y.b
  omega
theorem Own.putO (h : Own B w0 w H) (k : Nat) {b : Nat} {o : Obj} (hk : H[k]? = some (some (och b o))) (o' : Obj) : Own B w0 (w.putObj b o') (H.set k (some (och b o'))) := by
 have hge : B ≤ b := h.ge _ (List.mem_of_getElem? hk)
 have hlt : b < w.heap.size := blkIs.lt (h.gets k hk)
 have hoth : ∀ j, j < w.heap.size → j ≠ b → (w.putObj b o').heap[j]? = w.heap[j]? := fun j _ hj => World.putObj_heap_other hj
 refine h.updBB k hk ⟨rfl, rfl, rfl, ?_, fun j hj => World.putObj_heap_other (by omega)⟩ hoth ?_ hge (.inl rfl)
 ·show w.heap.size ≤ (w.putObj b o').heap.size
  simp [World.putObj]
 ·show (w.putObj b o').heap[b]? = some o'
  exact World.putObj_heap_same hlt
end
section
variable {P : Program} {f N : Nat} {k : List Item} {F : Fr} {w : World} {R : Ending → World → Prop} {ops : Array Oper} {o : Oper} {rest : List Oper}
theorem run_ci {n : Nat} {c : Code} (h : CI none n P N (QK P f k R) c F w) : Run P f N (.code c :: k) F w R := fun a ha => runA_of_wp ((wpIn_wide (n := n)).1 (h a ha))
theorem qk_run (h : Run P f N k F w R) : ∀ a, Holds N F a → QK P f k R .normal a w := h
def RM (P : Program) (f N : Nat) (ds : List Deferred) (k : List Item) (F : Fr) (w : World) (R : Ending → World → Prop) : Prop := ∀ a, Holds N F { a with defers := [] } → a.defers = ds → RunA P f k a w R
def RML (P : Program) (f N : Nat) (ds : List Deferred) (ops : Array Oper) (l : List Oper) (k : List Item) (F : Fr) (w : World) (R : Ending → World → Prop) : Prop := ∀ a, Holds N F { a with defers := [] } → a.defers = ds → wpList P ops (QK P f k R) l a w
variable {ds : List Deferred}
theorem rm_region {id : Nat} {l : List Oper} (h : RML P f N ds l.toArray l k F w R) : RM P f N ds (.code (.region id l.toArray false) :: k) F w R := fun a ha hd => runA_of_wp (wp_region_lit (h a ha hd))
theorem rml_nil (h : RM P f N ds k F w R) : RML P f N ds ops [] k F w R := h
theorem rml_v {d : Nat} {v : Value} (hg : o.guard = none) (hd : o.dst = some d) (hN : Nat.blt d N = true) (hv : OpV P N o F w v) (h : RML P f N ds ops rest k ((d, v) :: F) w R) : RML P f N ds ops (o :: rest) k F w R := by
 intro a ha hds
 refine wpList_plain hg fun K hK => ?_
 have h1 := hv _ ha
 change (execOp a.eval o).run P w = _ at h1
 unfold Oper.wp
 rw [h1]
 show K (a.put o.dst v) w
 rw [hd]
 refine hK _ _ (h _ ?_ ?_)
 ·exact ha.put (lt_of_blt hN) v
 ·exact hds
theorem rm_seq {x y : Code} (h : RM P f N ds (.code x :: .code y :: k) F w R) : RM P f N ds (.code (.seq x y) :: k) F w R := fun a ha hd => RunA.of_step (fun _ => .one step_seq) (h a ha hd)
theorem rm_ret {fn : Func} {v : Value} {D : Nat} (hf : P.funcs[f]? = some fn) (hD : w.heap[D]? = some (.deferred (some []))) (hres : ∀ a, Holds N F a → (results fn a.tmps).run P (w.putObj D (.deferred none)) = .ok v (w.putObj D (.deferred none))) (hR : R (.returned v) (w.putObj D (.deferred none))) :
  RM P f N [{ target := .collected D, args := #[] }] (.code .ret :: k) F w R := by
 intro a ha hd cs
 have hM : LeavesInM (FW none) 0 P fn a.tmps R a.defers .returning w := by
  rw [hd]
  refine ⟨by simp, .inl ⟨D, _, rfl, run_takeDeferred hD, ?_⟩⟩
  exact ⟨v, hres { a with defers := [] } ha, hR⟩
 obtain ⟨e', w'', fr', h1, h2, h3, h4⟩ := leaves_stepsInM (F := FW none) (n := 0) a.defers .returning w { (base f).at a (.code .ret :: k) with mode := .returning } cs rfl rfl rfl hf rfl trivial (room_wide _) hM
 exact ⟨e', w'', fr', h1, Comes.of_steps (.one step_ret) (comesIn_wide.1 h2), h3, h4⟩
def lrec (f : Nat) (tmps : Array Value) (ps : Array Tmp) (assign body : Code) (D : Nat) : Loop := { state := .ready, pending := none, fn := f, tmps := tmps, params := ps, assign := assign, body := body, defers := D }
theorem inBlock_exit {id : Nat} {Q : Exit → Act → World → Prop} {a : Act} (h : Q .normal a w) : Exit.inBlock id Q (.exit id) a w := by
 show (if id = id then _ else _)
 rw [if_pos rfl]
 exact h
theorem run_rangeFunc {id gf : Nat} {g : Operand} {ps : Array Tmp} {assign body : Code} {cap : Array Value} (hcl : Callable P gf) (hg : Fr.ev F g = some (.func (.func gf) #[] cap))
  (h : ∀ fn a, Holds N F a → Calls P gf (#[.func (.yield (w.heap.size + 1)) #[] #[]] ++ cap) ((w.alloc (.deferred (some []))).alloc (.loop (lrec fn a.tmps ps assign body w.heap.size))) fun e w3 =>
   ∃ (v : Value) (r : Loop), e = .returned v ∧ w3.heap[w.heap.size + 1]? = some (.loop r) ∧ r.state ≠ .busy ∧ (r.pending = none ∨ r.pending = some (.exit id)) ∧
    RM P f N [{ target := .collected w.heap.size, args := #[] }] k F (w3.putObj (w.heap.size + 1) (.loop { r with state := .exhausted })) R) :
  Run P f N (.code (.block id (.rangeFunc g ps assign body)) :: k) F w R := by
 intro a ha cs
 have hw : (Code.block id (.rangeFunc g ps assign body)).wpIn (FW none) 0 P (fun e a' w' => e = .normal ∧ RunA P f k a' w' R) a w := by
  refine wpIn_block (wpIn_rangeFunc fun fn _ => ?_)
  have hres : (resolve a.eval (rangeCall g (w.heap.size + 1)) 0).run P ((w.alloc (.deferred (some []))).alloc (.loop (lrec fn a.tmps ps assign body w.heap.size))) = .ok { target := .fn (.func gf) cap, args := #[.func (.yield (w.heap.size + 1)) #[] #[]] } ((w.alloc (.deferred (some []))).alloc (.loop (lrec fn a.tmps ps assign body w.heap.size))) := by
   simp only [rangeCall, resolve, Sem.run_bind, Deferred.ofValue, ha.ev hg]
   simp [Result.andThen, Act.eval]
  have hinv : (invoke (Target.fn (.func gf) cap) #[.func (.yield (w.heap.size + 1)) #[] #[]]).run P ((w.alloc (.deferred (some []))).alloc (.loop (lrec fn a.tmps ps assign body w.heap.size))) = .ok (.enter gf (#[.func (.yield (w.heap.size + 1)) #[] #[]] ++ cap)) ((w.alloc (.deferred (some []))).alloc (.loop (lrec fn a.tmps ps assign body w.heap.size))) := by
   simp [invoke, run_callFunc hcl]
  refine ⟨w.heap.size + 1, [{ target := .collected w.heap.size, args := #[] }], (w.alloc (.deferred (some []))).alloc (.loop (lrec fn a.tmps ps assign body w.heap.size)), { target := .fn (.func gf) cap, args := #[.func (.yield (w.heap.size + 1)) #[] #[]] }, (w.alloc (.deferred (some []))).alloc (.loop (lrec fn a.tmps ps assign body w.heap.size)), gf, #[.func (.yield (w.heap.size + 1)) #[] #[]] ++ cap, (w.alloc (.deferred (some []))).alloc (.loop (lrec fn a.tmps ps assign body w.heap.size)), run_enterLoop_outer fn a.tmps ps assign body, hres, fun _ _ => trivial, hinv, fun hd => absurd hd (by simp [FW, Fence.wide]), ?_⟩
  refine callsFW ((h fn a ha).mono fun e w3 he => ?_)
  obtain ⟨v, r, rfl, h1, h2, h3, h4⟩ := he
  refine ⟨r.pending, _, run_endLoop h1 h2, ?_⟩
  have hds : ({ a with defers := [{ target := .collected w.heap.size, args := #[] }] ++ a.defers } : Act).defers = [{ target := .collected w.heap.size, args := #[] }] := by simp [ha.defs]
  have hcont := h4 { a with defers := [{ target := .collected w.heap.size, args := #[] }] ++ a.defers } ⟨ha.size, rfl, ha.at_⟩ hds
  rcases h3 with h3 | h3
  ·rw [h3] at hcont ⊢
   exact ⟨rfl, hcont⟩
  ·rw [h3] at hcont ⊢
   exact wpIn_exit (inBlock_exit ⟨rfl, hcont⟩)
 obtain ⟨e, a', w', hq, harr⟩ := (wpIn_wide (n := 0)).1 hw (base f) k cs
 obtain ⟨rfl, hq⟩ := hq
 obtain ⟨e, w'', fr, h1, h2, h3, h4⟩ := hq cs
 exact ⟨e, w'', fr, h1, Comes.of_steps harr h2, h3, h4⟩
theorem yieldAt_round {l p n : Nat} {r : Loop} {v : Value} (hl : w.heap[l]? = some (.loop r)) (hps : r.params = #[p]) (hsz : r.tmps.size = N) (hF : ∀ i u, Fr.get F i = some u → r.tmps[i]? = some u) (hp : Nat.blt p N = true)
  (h : CI (some l) n P N (Exit.then (fun a₁ w₁ => ∃ w₂, (Instr.beginRound l).run P w₁ = .ok () w₂ ∧ r.body.wpIn (FW (some l)) n P (roundPost P l R) a₁ w₂) (fun _ _ _ => False)) r.assign ((p, v) :: F) w) : YieldAt (FW none) n P l #[v] w R := by
 have hr := run_yield (P := P) (args := #[v]) hl (by rw [hps]; rfl)
 refine ⟨_, _, _, _, hr, roundIn_of_wpIn trivial ?_⟩
 have h0 : Holds N F { tmps := r.tmps, defers := [] } := ⟨hsz, rfl, hF⟩
 have h1 := h _ (h0.put (lt_of_blt hp) v)
 rw [hps]
 simp [Act.put] at h1 ⊢
 exact h1
theorem round_body {l n : Nat} {c : Code} (h : ∀ a, Holds N F a → ∃ w₂, (Instr.beginRound l).run P w = .ok () w₂ ∧ c.wpIn (FW (some l)) n P (roundPost P l R) a w₂) :
  ∀ a, Holds N F a → Exit.then (fun a₁ w₁ => ∃ w₂, (Instr.beginRound l).run P w₁ = .ok () w₂ ∧ c.wpIn (FW (some l)) n P (roundPost P l R) a₁ w₂) (fun _ _ _ => False) .normal a w := h
end
end Go.Proofs.Ytbepolognfdkeaa
set_option maxRecDepth 100000
namespace Go.Proofs.Ytbepolognfdkeaa
open Go.RowKit Go.Proofs
section
variable {P : Program} {N n : Nat} {F : Fr} {w : World} {Q : Exit → Act → World → Prop} {ro : Option Nat} {a : Act}
end
theorem inBlock_normal {Q : Exit → Act → World → Prop} {id : Nat} {a : Act} {w : World} (hq : Q .normal a w) : Exit.inBlock id Q .normal a w := hq
section
variable {P : Program} {N n l B k : Nat} {F : Fr} {w w0 : World} {R : Ending → World → Prop} {a : Act} {H : List (Option Blk)} {r : Loop}
theorem beginK (h : Own B w0 w H) (k : Nat) (hk : H[k]? = some (some (och l (.loop r)))) (hs : r.state = .ready) {c : Code}
  (hb : ∀ w2, Own B w0 w2 (H.set k (some (och l (.loop { r with state := .busy })))) → CI (some l) n P N (roundPost P l R) c F w2) : ∀ a, Holds N F a → ∃ w₂, (Instr.beginRound l).run P w = .ok () w₂ ∧ c.wpIn (FW (some l)) n P (roundPost P l R) a w₂ :=
 fun a ha => ⟨_, run_beginRound (h.atO k hk) hs, hb _ (h.putO k hk _) a ha⟩
theorem endK (h : Own B w0 w H) (k : Nat) (hk : H[k]? = some (some (och l (.loop r)))) (hR : ∀ w2, Own B w0 w2 (H.set k (some (och l (.loop { r with state := .ready, pending := none })))) → R (.returned (.bool true)) w2) : roundPost P l R .normal a w :=
 ⟨_, _, run_endRound none (h.atO k hk), hR _ (h.putO k hk _)⟩
end
section
variable {P : Program} {N : Nat} {F : Fr} {w : World} {Q : Exit → Act → World → Prop} {ops : Array Oper} {o : Oper} {rest : List Oper}
theorem li_yield {l d : Nat} {fo : Operand} {xs : Array Operand} {ats : Array TypeId} {vs : List Value} {Post : Value → World → Prop} (hg : o.guard = none) (hd : o.dst = some d) (hN : Nat.blt d N = true) (ho : o.op = .call { callee := .value fo, args := xs, argTypes := ats })
  (hf : Fr.ev F fo = some (.func (.yield l) #[] #[])) (hx : Fr.evs F xs.toList = some vs) (hY : YieldAt (FW none) 0 P l vs.toArray w fun e w' => ∃ v, e = .returned v ∧ Post v w')
  (h : ∀ v w', Post v w' → LI none 0 P N ops Q rest ((d, v) :: F) w') : LI none 0 P N ops Q (o :: rest) F w := fun a ha =>
 wpListIn_plain hg fun K hK => wpIn_yield hd hN ho hf hx hY ha fun v a' w' hp ha' => hK _ _ (h v w' hp a' ha')
end
end Go.Proofs.Ytbepolognfdkeaa
