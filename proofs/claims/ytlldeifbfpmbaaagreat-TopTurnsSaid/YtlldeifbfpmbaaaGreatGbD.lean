import Derived.Test.YtlldeifbfpmbaaaGreatTab
import Derived.RangeFuncLeaves
import Derived.RangeFuncRecord
import Derived.RangeFuncSeq
import Derived.OrdersIn
import Derived.TacticsIn
import Derived.Test.YtlldeifbfpmbaaaGreatLate
import Derived.Maps.RangeRun
import Derived.Test.YtlldeifbfpmbaaaGreatFcA
import Derived.Test.YtlldeifbfpmbaaaGreatGbC
import Derived.Test.YtlldeifbfpmbaaaGreatLaw0
import Derived.Shelf.SortM.Plain
import Derived.Shelf.SortM.SortNone
import Derived.Shelf.SlGeneric
import Derived.Shelf.Lay
import Derived.Ground.SlgmProg
namespace Go.Proofs.YtlldeifbfpmbaaaGreat
open Go.RowKit
def FW (ro : Option Nat) : Fence := { Fence.wide with round := ro }
section
variable {P : Program} {f N : Nat} {k : List Item} {F : Fr} {w : World} {R : Ending → World → Prop} {ops : Array Oper} {o : Oper} {rest : List Oper} {ro : Option Nat} {n : Nat} {a : Act} {Q : Exit → Act → World → Prop}
theorem callsFW {g : FuncId} {args : Array Value} (h : Calls P g args w R) : CallsIn (FW ro) n P g args w R := by
 have h1 := (callsIn_wide (n := n)).2 h
 exact h1
theorem rowsFW {row : String} {args : Array Value} {R : Value → World → Prop} (h : Rows P row args w R) : RowsIn (FW ro) n P row args w R := fun c cs _ =>
 let ⟨v, w', r, s⟩ := h c cs
 ⟨v, w', r, stepsIn_wide.2 s⟩
theorem wpIn_of_wp {K : Act → World → Prop} (hnd : ∀ c, o.op ≠ .defer c) (h : o.wp P a w K Q) : o.wpIn (FW ro) n P a w K Q := by
 refine ⟨fun _ _ => trivial, ?_⟩
 have e : o.semAt (FW ro).round a.eval = execOp a.eval o := by
  cases ro with
  | none => unfold Oper.semAt; cases ho : o.op <;> rfl
  | some l => exact Oper.semAt_some l a.eval o hnd
 rw [e]
 unfold Oper.wp at h
 revert h
 cases hr : (execOp a.eval o).run P w with
 | ok x w' =>
  cases x with
  | value v => exact id
  | skip => exact id
  | defer d => exact id
  | enter g args => exact fun h => ⟨fun hd => absurd hd (by simp [FW, Fence.wide]), callsFW h⟩
  | row row args => exact fun h => ⟨fun hd => absurd hd (by simp [FW, Fence.wide]), rowsFW h⟩
  | _ => intro h; exact h.elim
 | halt x w' => cases x <;> intro h <;> exact h
def LI (ro : Option Nat) (n : Nat) (P : Program) (N : Nat) (ops : Array Oper) (Q : Exit → Act → World → Prop) (l : List Oper) (F : Fr) (w : World) : Prop := ∀ a, Holds N F a → wpListIn (FW ro) n P ops Q l a w
def CI (ro : Option Nat) (n : Nat) (P : Program) (N : Nat) (Q : Exit → Act → World → Prop) (c : Code) (F : Fr) (w : World) : Prop := ∀ a, Holds N F a → c.wpIn (FW ro) n P Q a w
theorem li_nil (h : ∀ a, Holds N F a → Q .normal a w) : LI ro n P N ops Q [] F w := h
theorem li_ow {Post : Fr → World → Prop} (hg : o.guard = none) (hnd : ∀ c, o.op ≠ .defer c) (hw : OpW P N o F w Post) (h : ∀ F' w', Post F' w' → LI ro n P N ops Q rest F' w') : LI ro n P N ops Q (o :: rest) F w := fun a ha =>
 wpListIn_plain hg fun K hK => wpIn_of_wp hnd (hw a ha K _ fun F' a' w' hp ha' => hK _ _ (h F' w' hp a' ha'))
theorem li_v {d : Nat} {v : Value} (hg : o.guard = none) (hnd : ∀ c, o.op ≠ .defer c) (hd : o.dst = some d) (hN : Nat.blt d N = true) (hv : OpV P N o F w v) (h : LI ro n P N ops Q rest ((d, v) :: F) w) : LI ro n P N ops Q (o :: rest) F w :=
 li_ow hg hnd (ow_v hd hN hv) fun F' w' ⟨h1, h2⟩ => by subst h1; subst h2; exact h
theorem ci_region {id : Nat} {l : List Oper} (h : LI ro n P N l.toArray Q l F w) : CI ro n P N Q (.region id l.toArray false) F w := fun a ha => wpIn_region_lit (h a ha)
theorem ci_seq {x y : Code} (h : CI ro n P N (Exit.then (y.wpIn (FW ro) n P Q) Q) x F w) : CI ro n P N Q (.seq x y) F w := fun a ha => wpIn_seq (h a ha)
theorem ci_block {id : Nat} {c : Code} (h : CI ro n P N (Exit.inBlock id Q) c F w) : CI ro n P N Q (.block id c) F w := fun a ha => wpIn_block (h a ha)
theorem ci_cond {c : Operand} {x y : Code} {t : Bool} (hc : Fr.ev F c = some (.bool t)) (ht : t = true → CI ro n P N Q x F w) (hf : t = false → CI ro n P N Q y F w) : CI ro n P N Q (.cond c x y) F w := fun a ha => by
 refine wpIn_cond (ha.ev hc) ?_
 cases t
 ·exact hf rfl a ha
 ·exact ht rfl a ha
def AY (ro : Option Nat) (n : Nat) (P : Program) (N : Nat) (ops : Array Oper) (Q : Exit → Act → World → Prop) (fuel : Nat) (listed : Array Bool) (F : Fr) (w : World) : Prop := ∀ a, Holds N F a → wpAnyIn (FW ro) n P .any ops Q fuel listed a w
def AYo (ro : Option Nat) (n : Nat) (P : Program) (N : Nat) (ops : Array Oper) (Q : Exit → Act → World → Prop) (fuel : Nat) (listed : Array Bool) (i : Nat) (F : Fr) (w : World) : Prop :=
 ∀ a, Holds N F a → wpOpIn (FW ro) n P ops Q i (wpAnyIn (FW ro) n P .any ops Q fuel (listed.setIfInBounds i true)) a w
theorem ay_start {id : Nat} {l : List Oper} (hm : P.follows .mixedOrders = true) (h : AY ro n P N l.toArray Q l.length (Array.replicate l.length false) F w.drew) : CI ro n P N Q (.region id l.toArray true) F w := fun a ha =>
 wpIn_region_any hm (by simpa using h a ha)
theorem ay_done {fuel : Nat} {listed : Array Bool} (hr : Region.ready .any ops listed = []) (h : ∀ a, Holds N F a → Q .normal a w) : AY ro n P N ops Q fuel listed F w := fun a ha => by
 cases fuel with
 | zero => exact ⟨hr, h a ha⟩
 | succ fuel => exact ⟨fun _ => h a ha, fun i hi => by rw [hr] at hi; cases hi⟩
theorem ay_1 {fuel i : Nat} {listed : Array Bool} (hr : Region.ready .any ops listed = [i]) (h : AYo ro n P N ops Q fuel listed i F w) : AY ro n P N ops Q (fuel + 1) listed F w := fun a ha =>
 ⟨(fun e => by rw [hr] at e; cases e), fun j hj => by rw [hr, List.mem_singleton] at hj; rw [hj]; exact h a ha⟩
theorem ay_2 {fuel i j : Nat} {listed : Array Bool} (hr : Region.ready .any ops listed = [i, j]) (h : AYo ro n P N ops Q fuel listed i F w) (h2 : AYo ro n P N ops Q fuel listed j F w) : AY ro n P N ops Q (fuel + 1) listed F w := fun a ha =>
 ⟨(fun e => by rw [hr] at e; cases e), fun x hx => by
  rw [hr] at hx
  simp only [List.mem_cons, List.mem_nil_iff, or_false] at hx
  rcases hx with hx | hx
  ·rw [hx]; exact h a ha
  ·rw [hx]; exact h2 a ha⟩
theorem ayo {fuel i : Nat} {listed : Array Bool} (hi : ops[i]? = some o) (hg : o.guard = none) (h : ∀ a, Holds N F a → o.wpIn (FW ro) n P a w (wpAnyIn (FW ro) n P .any ops Q fuel (listed.setIfInBounds i true)) Q) : AYo ro n P N ops Q fuel listed i F w := fun a ha => by
 unfold wpOpIn
 rw [hi]
 simp only [Region.wanted, hg, if_true]
 exact h a ha
theorem ayo_ow {fuel i : Nat} {listed : Array Bool} {Post : Fr → World → Prop} (hi : ops[i]? = some o) (hg : o.guard = none) (hnd : ∀ c, o.op ≠ .defer c) (hw : OpW P N o F w Post) (h : ∀ F' w', Post F' w' → AY ro n P N ops Q fuel (listed.setIfInBounds i true) F' w') : AYo ro n P N ops Q fuel listed i F w :=
 ayo hi hg fun a ha => wpIn_of_wp hnd (hw a ha _ _ fun F' a' w' hp ha' => h F' w' hp a' ha')
theorem ayo_v {fuel i d : Nat} {listed : Array Bool} {v : Value} (hi : ops[i]? = some o) (hg : o.guard = none) (hnd : ∀ c, o.op ≠ .defer c) (hd : o.dst = some d) (hN : Nat.blt d N = true) (hv : OpV P N o F w v) (h : AY ro n P N ops Q fuel (listed.setIfInBounds i true) ((d, v) :: F) w) : AYo ro n P N ops Q fuel listed i F w :=
 ayo_ow hi hg hnd (ow_v hd hN hv) fun F' w' ⟨h1, h2⟩ => by subst h1; subst h2; exact h
theorem wpIn_yield {l d : Nat} {fo : Operand} {xs : Array Operand} {ats : Array TypeId} {vs : List Value} {K : Act → World → Prop} {Post : Value → World → Prop} (hd : o.dst = some d) (hN : Nat.blt d N = true) (ho : o.op = .call { callee := .value fo, args := xs, argTypes := ats })
  (hf : Fr.ev F fo = some (.func (.yield l) #[] #[])) (hx : Fr.evs F xs.toList = some vs) (hY : YieldAt (FW none) 0 P l vs.toArray w fun e w' => ∃ v, e = .returned v ∧ Post v w') (ha : Holds N F a)
  (hK : ∀ v a' w', Post v w' → Holds N ((d, v) :: F) a' → K a' w') : o.wpIn (FW none) 0 P a w K Q := by
 refine ⟨fun _ _ => trivial, ?_⟩
 have hargs : xs.map a.eval = vs.toArray := by
  apply Array.ext'
  simpa using ha.evs hx
 obtain ⟨fn, tmps, assign, body, h1, h2⟩ := hY
 have hrun : (execOp a.eval o).run P w = .ok (.round l fn tmps assign body) w := by
  unfold execOp
  simp only [ho, resolve, Sem.run_bind, Deferred.ofValue, ha.ev hf, hargs]
  simp [invoke, Result.andThen, h1]
 have e : o.semAt (FW none).round a.eval = execOp a.eval o := by unfold Oper.semAt; cases ho : o.op <;> rfl
 rw [e, hrun]
 refine ⟨fun hd => absurd hd (by simp [FW, Fence.wide]), ?_⟩
 refine RoundIn.mono h2 fun e w' he => ?_
 obtain ⟨v, rfl, hp⟩ := he
 rw [hd]
 exact hK v _ w' hp (ha.put (lt_of_blt hN) v)
end
end Go.Proofs.YtlldeifbfpmbaaaGreat
namespace Go.Proofs.YtlldeifbfpmbaaaGreat
open Go.RowKit
def och (b : Nat) (o : Obj) : Blk := ⟨b, 0, 0, fun _ => undef, some o⟩
section
variable {B : Nat} {w0 w : World} {H : List (Option Blk)}
theorem Own.atO (h : Own B w0 w H) (k : Nat) {b : Nat} {o : Obj} (hk : H[k]? = some (some (och b o))) : w.heap[b]? = some o := h.gets k hk
theorem Own.allocO (h : Own B w0 w H) (o : Obj) : Own B w0 (w.alloc o) (some (och w.heap.size o) :: H) := by
 have hp := h.past ((Below.refl _ w).alloc (Nat.le_refl _) o)
 refine hp.consB (x := och w.heap.size o) ?_ h.size fun y hy => ?_
 ·show (w.alloc o).heap[w.heap.size]? = some o
  exact World.alloc_heap_new w o
 ·have := blkIs.lt (h.at_ y hy)
  show w.heap.size ≠ y.b
  omega
theorem Own.putO (h : Own B w0 w H) (k : Nat) {b : Nat} {o : Obj} (hk : H[k]? = some (some (och b o))) (o' : Obj) : Own B w0 (w.putObj b o') (H.set k (some (och b o'))) := by
 have hge : B ≤ b := h.ge _ (List.mem_of_getElem? hk)
 have hlt : b < w.heap.size := blkIs.lt (h.gets k hk)
 have hoth : ∀ j, j < w.heap.size → j ≠ b → (w.putObj b o').heap[j]? = w.heap[j]? := fun j _ hj => World.putObj_heap_other hj
 refine h.updBB k hk ⟨rfl, rfl, rfl, ?_, fun j hj => World.putObj_heap_other (by omega)⟩ hoth ?_ hge (.inl rfl)
 ·show w.heap.size ≤ (w.putObj b o').heap.size
  simp [World.putObj]
 ·show (w.putObj b o').heap[b]? = some o'
  exact World.putObj_heap_same hlt
end
section
variable {P : Program} {f N : Nat} {k : List Item} {F : Fr} {w : World} {R : Ending → World → Prop} {ops : Array Oper} {o : Oper} {rest : List Oper}
theorem run_ci {n : Nat} {c : Code} (h : CI none n P N (QK P f k R) c F w) : Run P f N (.code c :: k) F w R := fun a ha => runA_of_wp ((wpIn_wide (n := n)).1 (h a ha))
theorem qk_run (h : Run P f N k F w R) : ∀ a, Holds N F a → QK P f k R .normal a w := h
def RM (P : Program) (f N : Nat) (ds : List Deferred) (k : List Item) (F : Fr) (w : World) (R : Ending → World → Prop) : Prop := ∀ a, Holds N F { a with defers := [] } → a.defers = ds → RunA P f k a w R
def RML (P : Program) (f N : Nat) (ds : List Deferred) (ops : Array Oper) (l : List Oper) (k : List Item) (F : Fr) (w : World) (R : Ending → World → Prop) : Prop := ∀ a, Holds N F { a with defers := [] } → a.defers = ds → wpList P ops (QK P f k R) l a w
variable {ds : List Deferred}
theorem rm_region {id : Nat} {l : List Oper} (h : RML P f N ds l.toArray l k F w R) : RM P f N ds (.code (.region id l.toArray false) :: k) F w R := fun a ha hd => runA_of_wp (wp_region_lit (h a ha hd))
theorem rml_nil (h : RM P f N ds k F w R) : RML P f N ds ops [] k F w R := h
theorem rml_v {d : Nat} {v : Value} (hg : o.guard = none) (hd : o.dst = some d) (hN : Nat.blt d N = true) (hv : OpV P N o F w v) (h : RML P f N ds ops rest k ((d, v) :: F) w R) : RML P f N ds ops (o :: rest) k F w R := by
 intro a ha hds
 refine wpList_plain hg fun K hK => ?_
 have h1 := hv _ ha
 change (execOp a.eval o).run P w = _ at h1
 unfold Oper.wp
 rw [h1]
 show K (a.put o.dst v) w
 rw [hd]
 refine hK _ _ (h _ ?_ ?_)
 ·exact ha.put (lt_of_blt hN) v
 ·exact hds
theorem rm_seq {x y : Code} (h : RM P f N ds (.code x :: .code y :: k) F w R) : RM P f N ds (.code (.seq x y) :: k) F w R := fun a ha hd => RunA.of_step (fun _ => .one step_seq) (h a ha hd)
theorem rm_ret {fn : Func} {v : Value} {D : Nat} (hf : P.funcs[f]? = some fn) (hD : w.heap[D]? = some (.deferred (some []))) (hres : ∀ a, Holds N F a → (results fn a.tmps).run P (w.putObj D (.deferred none)) = .ok v (w.putObj D (.deferred none))) (hR : R (.returned v) (w.putObj D (.deferred none))) :
  RM P f N [{ target := .collected D, args := #[] }] (.code .ret :: k) F w R := by
 intro a ha hd cs
 have hM : LeavesInM (FW none) 0 P fn a.tmps R a.defers .returning w := by
  rw [hd]
  refine ⟨by simp, .inl ⟨D, _, rfl, run_takeDeferred hD, ?_⟩⟩
  exact ⟨v, hres { a with defers := [] } ha, hR⟩
 obtain ⟨e', w'', fr', h1, h2, h3, h4⟩ := leaves_stepsInM (F := FW none) (n := 0) a.defers .returning w { (base f).at a (.code .ret :: k) with mode := .returning } cs rfl rfl rfl hf rfl trivial (room_wide _) hM
 exact ⟨e', w'', fr', h1, Comes.of_steps (.one step_ret) (comesIn_wide.1 h2), h3, h4⟩
def lrec (f : Nat) (tmps : Array Value) (ps : Array Tmp) (assign body : Code) (D : Nat) : Loop := { state := .ready, pending := none, fn := f, tmps := tmps, params := ps, assign := assign, body := body, defers := D }
theorem inBlock_exit {id : Nat} {Q : Exit → Act → World → Prop} {a : Act} (h : Q .normal a w) : Exit.inBlock id Q (.exit id) a w := by
 show (if id = id then _ else _)
 rw [if_pos rfl]
 exact h
theorem run_rangeFunc {id gf : Nat} {g : Operand} {ps : Array Tmp} {assign body : Code} {cap : Array Value} (hcl : Callable P gf) (hg : Fr.ev F g = some (.func (.func gf) #[] cap))
  (h : ∀ fn a, Holds N F a → Calls P gf (#[.func (.yield (w.heap.size + 1)) #[] #[]] ++ cap) ((w.alloc (.deferred (some []))).alloc (.loop (lrec fn a.tmps ps assign body w.heap.size))) fun e w3 =>
   ∃ (v : Value) (r : Loop), e = .returned v ∧ w3.heap[w.heap.size + 1]? = some (.loop r) ∧ r.state ≠ .busy ∧ (r.pending = none ∨ r.pending = some (.exit id)) ∧
    RM P f N [{ target := .collected w.heap.size, args := #[] }] k F (w3.putObj (w.heap.size + 1) (.loop { r with state := .exhausted })) R) :
  Run P f N (.code (.block id (.rangeFunc g ps assign body)) :: k) F w R := by
 intro a ha cs
 have hw : (Code.block id (.rangeFunc g ps assign body)).wpIn (FW none) 0 P (fun e a' w' => e = .normal ∧ RunA P f k a' w' R) a w := by
  refine wpIn_block (wpIn_rangeFunc fun fn _ => ?_)
  have hres : (resolve a.eval (rangeCall g (w.heap.size + 1)) 0).run P ((w.alloc (.deferred (some []))).alloc (.loop (lrec fn a.tmps ps assign body w.heap.size))) = .ok { target := .fn (.func gf) cap, args := #[.func (.yield (w.heap.size + 1)) #[] #[]] } ((w.alloc (.deferred (some []))).alloc (.loop (lrec fn a.tmps ps assign body w.heap.size))) := by
   simp only [rangeCall, resolve, Sem.run_bind, Deferred.ofValue, ha.ev hg]
   simp [Result.andThen, Act.eval]
  have hinv : (invoke (Target.fn (.func gf) cap) #[.func (.yield (w.heap.size + 1)) #[] #[]]).run P ((w.alloc (.deferred (some []))).alloc (.loop (lrec fn a.tmps ps assign body w.heap.size))) = .ok (.enter gf (#[.func (.yield (w.heap.size + 1)) #[] #[]] ++ cap)) ((w.alloc (.deferred (some []))).alloc (.loop (lrec fn a.tmps ps assign body w.heap.size))) := by
   simp [invoke, run_callFunc hcl]
  refine ⟨w.heap.size + 1, [{ target := .collected w.heap.size, args := #[] }], (w.alloc (.deferred (some []))).alloc (.loop (lrec fn a.tmps ps assign body w.heap.size)), { target := .fn (.func gf) cap, args := #[.func (.yield (w.heap.size + 1)) #[] #[]] }, (w.alloc (.deferred (some []))).alloc (.loop (lrec fn a.tmps ps assign body w.heap.size)), gf, #[.func (.yield (w.heap.size + 1)) #[] #[]] ++ cap, (w.alloc (.deferred (some []))).alloc (.loop (lrec fn a.tmps ps assign body w.heap.size)), run_enterLoop_outer fn a.tmps ps assign body, hres, fun _ _ => trivial, hinv, fun hd => absurd hd (by simp [FW, Fence.wide]), ?_⟩
  refine callsFW ((h fn a ha).mono fun e w3 he => ?_)
  obtain ⟨v, r, rfl, h1, h2, h3, h4⟩ := he
  refine ⟨r.pending, _, run_endLoop h1 h2, ?_⟩
  have hds : ({ a with defers := [{ target := .collected w.heap.size, args := #[] }] ++ a.defers } : Act).defers = [{ target := .collected w.heap.size, args := #[] }] := by simp [ha.defs]
  have hcont := h4 { a with defers := [{ target := .collected w.heap.size, args := #[] }] ++ a.defers } ⟨ha.size, rfl, ha.at_⟩ hds
  rcases h3 with h3 | h3
  ·rw [h3] at hcont ⊢
   exact ⟨rfl, hcont⟩
  ·rw [h3] at hcont ⊢
   exact wpIn_exit (inBlock_exit ⟨rfl, hcont⟩)
 obtain ⟨e, a', w', hq, harr⟩ := (wpIn_wide (n := 0)).1 hw (base f) k cs
 obtain ⟨rfl, hq⟩ := hq
 obtain ⟨e, w'', fr, h1, h2, h3, h4⟩ := hq cs
 exact ⟨e, w'', fr, h1, Comes.of_steps harr h2, h3, h4⟩
theorem yieldAt_round {l p n : Nat} {r : Loop} {v : Value} (hl : w.heap[l]? = some (.loop r)) (hps : r.params = #[p]) (hsz : r.tmps.size = N) (hF : ∀ i u, Fr.get F i = some u → r.tmps[i]? = some u) (hp : Nat.blt p N = true)
  (h : CI (some l) n P N (Exit.then (fun a₁ w₁ => ∃ w₂, (Instr.beginRound l).run P w₁ = .ok () w₂ ∧ r.body.wpIn (FW (some l)) n P (roundPost P l R) a₁ w₂) (fun _ _ _ => False)) r.assign ((p, v) :: F) w) : YieldAt (FW none) n P l #[v] w R := by
 have hr := run_yield (P := P) (args := #[v]) hl (by rw [hps]; rfl)
 refine ⟨_, _, _, _, hr, roundIn_of_wpIn trivial ?_⟩
 have h0 : Holds N F { tmps := r.tmps, defers := [] } := ⟨hsz, rfl, hF⟩
 have h1 := h _ (h0.put (lt_of_blt hp) v)
 rw [hps]
 simp [Act.put] at h1 ⊢
 exact h1
theorem round_body {l n : Nat} {c : Code} (h : ∀ a, Holds N F a → ∃ w₂, (Instr.beginRound l).run P w = .ok () w₂ ∧ c.wpIn (FW (some l)) n P (roundPost P l R) a w₂) :
  ∀ a, Holds N F a → Exit.then (fun a₁ w₁ => ∃ w₂, (Instr.beginRound l).run P w₁ = .ok () w₂ ∧ c.wpIn (FW (some l)) n P (roundPost P l R) a₁ w₂) (fun _ _ _ => False) .normal a w := h
end
end Go.Proofs.YtlldeifbfpmbaaaGreat
set_option maxRecDepth 100000
namespace Go.Proofs.YtlldeifbfpmbaaaGreat
open Go.RowKit Go.Proofs
section
variable {P : Program} {N n : Nat} {F : Fr} {w : World} {Q : Exit → Act → World → Prop} {ro : Option Nat} {a : Act}
theorem li_seq {ops : Array Oper} {y : Code} (h : CI ro n P N Q y F w) : LI ro n P N ops (Exit.then (y.wpIn (FW ro) n P Q) Q) [] F w := li_nil fun a ha => h a ha
theorem ci_exit {id : Nat} (h : ∀ a, Holds N F a → Q (.exit id) a w) : CI ro n P N Q (.exit id) F w := fun a ha => wpIn_exit (h a ha)
theorem ci_skip (h : ∀ a, Holds N F a → Q .normal a w) : CI ro n P N Q .skip F w := fun a ha => wpIn_skip (h a ha)
end
theorem inBlock_normal {Q : Exit → Act → World → Prop} {id : Nat} {a : Act} {w : World} (hq : Q .normal a w) : Exit.inBlock id Q .normal a w := hq
theorem inBlock_other {P : Program} {Q : Exit → Act → World → Prop} {id i : Nat} {a : Act} {w : World} (h : i ≠ id) (hq : Q (.exit i) a w) : Exit.inBlock id Q (.exit i) a w := by
 show (if i = id then _ else _)
 rw [if_neg h]; exact hq
section
variable {P : Program} {N n l B k : Nat} {F : Fr} {w w0 : World} {R : Ending → World → Prop} {a : Act} {H : List (Option Blk)} {r : Loop}
theorem beginK (h : Own B w0 w H) (k : Nat) (hk : H[k]? = some (some (och l (.loop r)))) (hs : r.state = .ready) {c : Code}
  (hb : ∀ w2, Own B w0 w2 (H.set k (some (och l (.loop { r with state := .busy })))) → CI (some l) n P N (roundPost P l R) c F w2) : ∀ a, Holds N F a → ∃ w₂, (Instr.beginRound l).run P w = .ok () w₂ ∧ c.wpIn (FW (some l)) n P (roundPost P l R) a w₂ :=
 fun a ha => ⟨_, run_beginRound (h.atO k hk) hs, hb _ (h.putO k hk _) a ha⟩
theorem endK (h : Own B w0 w H) (k : Nat) (hk : H[k]? = some (some (och l (.loop r)))) (hR : ∀ w2, Own B w0 w2 (H.set k (some (och l (.loop { r with state := .ready, pending := none })))) → R (.returned (.bool true)) w2) : roundPost P l R .normal a w :=
 ⟨_, _, run_endRound none (h.atO k hk), hR _ (h.putO k hk _)⟩
theorem endKx {id : Nat} (h : Own B w0 w H) (k : Nat) (hk : H[k]? = some (some (och l (.loop r)))) (hR : ∀ w2, Own B w0 w2 (H.set k (some (och l (.loop { r with state := .done, pending := some (.exit id) })))) → R (.returned (.bool false)) w2) : roundPost P l R (.exit id) a w :=
 ⟨_, _, run_endRound (some (.exit id)) (h.atO k hk), hR _ (h.putO k hk _)⟩
end
section
variable {P : Program} {N : Nat} {F : Fr} {w : World} {Q : Exit → Act → World → Prop} {ops : Array Oper} {o : Oper} {rest : List Oper}
end
end Go.Proofs.YtlldeifbfpmbaaaGreat
set_option maxRecDepth 100000
namespace Go.Proofs.YtlldeifbfpmbaaaGreat
open Go.RowKit Go.Proofs Go.MapKept
theorem nodup_injM {α : Type} {l : List α} (h : l.Nodup) {i j : Nat} (hi : i < l.length) (hj : j < l.length) (e : l[i] = l[j]) : i = j := by
 have hp := List.pairwise_iff_getElem.1 h
 rcases Nat.lt_trichotomy i j with c | c | c
 ·exact absurd e (hp i j hi hj c)
 ·exact c
 ·exact absurd e.symm (hp j i hj hi c)
section
variable {P : Program} {N : Nat} {o : Oper} {F : Fr} {w w0 : World} {B : Nat} {H : List (Option Blk)}
end
end Go.Proofs.YtlldeifbfpmbaaaGreat
set_option maxRecDepth 100000
namespace Go.Proofs.YtlldeifbfpmbaaaGreat
open Go.RowKit Go.Proofs Go.MapKept
def Tryz.sortInts_ren : Go.Shelf.Ren := ⟨fun | 5 => 97 | 8 => 123 | 7 => 122 | 19 => 144 | 20 => 145 | 10 => 135 | 11 => 136 | 12 => 137 | 13 => 138 | 14 => 139 | 15 => 140 | 16 => 141 | 17 => 142 | 18 => 143 | 30 => 156 | 31 => 157 | 32 => 158 | 33 => 159 | 34 => 160 | 35 => 161 | 40 => 167 | n => n, fun | 23 => 23 | 25 => 3 | 3 => 3 | 32 => 49 | 22 => 23 | 0 => 0 | 44 => 196 | 46 => 106 | 4 => 4 | 36 => 206 | 35 => 205 | 41 => 177 | 5 => 5 | 9 => 9 | 53 => 219 | 57 => 223 | 63 => 229 | 64 => 230 | n => n, fun | n => n⟩
theorem Tryz.sortInts : Go.Proofs.SlLaysM.n5 Tryz.prog Tryz.sortInts_ren := {
  mixed := by kernel_rfl
  f5 := ⟨Tryz.f97.name, by decide, Tryz.func97.trans (congrArg some (by kernel_rfl))⟩
  f7 := ⟨Tryz.f122.name, by decide, Tryz.func122.trans (congrArg some (by kernel_rfl))⟩
  f8 := Tryz.func123.trans (congrArg some (by kernel_rfl))
  f10 := ⟨Tryz.f135.name, by decide, Tryz.func135.trans (congrArg some (by kernel_rfl))⟩
  f11 := ⟨Tryz.f136.name, by decide, Tryz.func136.trans (congrArg some (by kernel_rfl))⟩
  f12 := ⟨Tryz.f137.name, by decide, Tryz.func137.trans (congrArg some (by kernel_rfl))⟩
  f13 := ⟨Tryz.f138.name, by decide, Tryz.func138.trans (congrArg some (by kernel_rfl))⟩
  f14 := ⟨Tryz.f139.name, by decide, Tryz.func139.trans (congrArg some (by kernel_rfl))⟩
  f15 := ⟨Tryz.f140.name, by decide, Tryz.func140.trans (congrArg some (by kernel_rfl))⟩
  f16 := ⟨Tryz.f141.name, by decide, Tryz.func141.trans (congrArg some (by kernel_rfl))⟩
  f17 := ⟨Tryz.f142.name, by decide, Tryz.func142.trans (congrArg some (by kernel_rfl))⟩
  f18 := ⟨Tryz.f143.name, by decide, Tryz.func143.trans (congrArg some (by kernel_rfl))⟩
  f19 := Tryz.func144.trans (congrArg some (by kernel_rfl))
  f20 := Tryz.func145.trans (congrArg some (by kernel_rfl))
  f30 := ⟨Tryz.f156.name, by decide, Tryz.func156.trans (congrArg some (by kernel_rfl))⟩
  f31 := Tryz.func157.trans (congrArg some (by kernel_rfl))
  f32 := Tryz.func158.trans (congrArg some (by kernel_rfl))
  f33 := ⟨Tryz.f159.name, by decide, Tryz.func159.trans (congrArg some (by kernel_rfl))⟩
  f34 := ⟨Tryz.f160.name, by decide, Tryz.func160.trans (congrArg some (by kernel_rfl))⟩
  f35 := ⟨Tryz.f161.name, by decide, Tryz.func161.trans (congrArg some (by kernel_rfl))⟩
  f40 := ⟨Tryz.f167.name, by decide, Tryz.func167.trans (congrArg some (by kernel_rfl))⟩
  t0 := Tryz.underlying0
  a0 := Tryz.isAgg0
  z0 := Tryz.sizeOf0
  v0 := Tryz.zeroValue0
  t3 := Tryz.underlying3
  a3 := Tryz.isAgg3
  z3 := Tryz.sizeOf3
  v3 := Tryz.zeroValue3
  t4 := Tryz.underlying4
  a4 := Tryz.isAgg4
  z4 := Tryz.sizeOf4
  v4 := Tryz.zeroValue4
  t5 := Tryz.underlying5
  a5 := Tryz.isAgg5
  z5 := Tryz.sizeOf5
  v5 := Tryz.zeroValue5
  t9 := Tryz.underlying9
  a9 := Tryz.isAgg9
  z9 := Tryz.sizeOf9
  v9 := Tryz.zeroValue9
  t22 := Tryz.underlying23
  a22 := Tryz.isAgg23
  z22 := Tryz.sizeOf23
  v22 := Tryz.zeroValue23
  t23 := Tryz.underlying23
  a23 := Tryz.isAgg23
  z23 := Tryz.sizeOf23
  v23 := Tryz.zeroValue23
  t25 := Tryz.underlying3
  a25 := Tryz.isAgg3
  z25 := Tryz.sizeOf3
  v25 := Tryz.zeroValue3
  t32 := Tryz.underlying49
  a32 := Tryz.isAgg49
  z32 := Tryz.sizeOf49
  v32 := Tryz.zeroValue49
  t35 := Tryz.underlying205
  a35 := Tryz.isAgg205
  z35 := Tryz.sizeOf205
  v35 := Tryz.zeroValue205
  t36 := Tryz.underlying206
  a36 := Tryz.isAgg206
  z36 := Tryz.sizeOf206
  v36 := Tryz.zeroValue206
  t41 := Tryz.underlying177
  a41 := Tryz.isAgg177
  z41 := Tryz.sizeOf177
  v41 := Tryz.zeroValue177
  t44 := Tryz.underlying196
  a44 := Tryz.isAgg196
  z44 := Tryz.sizeOf196
  v44 := Tryz.zeroValue196
  t46 := Tryz.underlying106
  a46 := Tryz.isAgg106
  z46 := Tryz.sizeOf106
  v46 := Tryz.zeroValue106
  t53 := Tryz.underlying219
  a53 := Tryz.isAgg219
  z53 := Tryz.sizeOf219
  v53 := Tryz.zeroValue219
  t57 := Tryz.underlying223
  a57 := Tryz.isAgg223
  z57 := Tryz.sizeOf223
  v57 := Tryz.zeroValue223
  t63 := Tryz.underlying229
  a63 := Tryz.isAgg229
  z63 := Tryz.sizeOf229
  v63 := Tryz.zeroValue229
  t64 := Tryz.underlying230
  a64 := Tryz.isAgg230
  z64 := Tryz.sizeOf230
  v64 := Tryz.zeroValue230 }
theorem sortI_any (ob N cap : Nat) (X : Int → Int) (G : Int → Value) (w : World) (B : Nat) (w0 : World) (H : List (Option Blk)) (hN : 1 ≤ N) (hc : N ≤ cap) (hN2 : N ≤ 1000000) (hG : ∀ i : Int, 0 ≤ i → i < N → G i = iv (X i)) (hO : Own B w0 w (some (vch ob 3 cap G) :: H)) :
  Calls Tryz.prog 97 #[.slice (some ⟨ob, 0, none⟩) N cap] w fun e w' => e = .returned (.tuple #[]) ∧ ∃ zs : List Int, zs.Perm ((List.range N).map fun j : Nat => X (j : Int)) ∧ zs.Pairwise (· ≤ ·) ∧ Own B w0 w' (some (vch ob 3 cap (fun i => if i < N then iv (zs.getD i.toNat 0) else G i)) :: H) := by
 obtain ⟨ys, hys⟩ : ∃ ys : List Int, ys = (List.range N).map fun j : Nat => X (j : Int) := ⟨_, rfl⟩
 have hyl : ys.length = N := by rw [hys]; simp
 have hyj : ∀ (j : Nat), j < N → ys.toArray[j]! = X (j : Int) := fun j hj => by
  rw [getElem!_pos ys.toArray j (by simp; omega)]
  subst hys
  simp
 have h := AnyM.slices_Sort_int { Tryz.sortInts with } ob 0 cap ys w (fun j hj => by
  have hj' : j < N := by have : j < ys.toArray.size := hj; simp at this; omega
  refine ⟨?_, by rw [Nat.zero_add]; exact (hO.get 0 rfl).frozen j⟩
  have := hO.cellI 0 rfl (j : Int) (by omega) (by omega)
  rw [Int.toNat_natCast] at this
  rw [this, hG j (by omega) (by omega), hyj j hj']) (hO.lt 0 rfl) (by omega)
 change Calls Tryz.prog 97 _ _ _ at h
 rw [hyl] at h
 refine h.mono fun e w' ⟨he, n, os, hw⟩ => ⟨he, ys.mergeSort fun x y => decide (x ≤ y), ?_, ?_, ?_⟩
 ·rw [← hys]; exact List.mergeSort_perm _ _
 ·refine (List.pairwise_mergeSort (le := fun x y : Int => decide (x ≤ y)) (fun a b c h1 h2 => ?_) (fun a b => ?_) ys).imp fun h => of_decide_eq_true h
  ·have := of_decide_eq_true h1; have := of_decide_eq_true h2; exact decide_eq_true (by omega)
  ·by_cases c : a ≤ b
   ·simp [c]
   ·simp; omega
 ·have hl : (ys.mergeSort fun x y => decide (x ≤ y)).length = N := by rw [List.length_mergeSort, hyl]
  have hs := hO.sorted (enc := Value.int .i64) n (ys.mergeSort fun x y => decide (x ≤ y)).toArray os (by simp [hyl] : (ys.mergeSort fun x y => decide (x ≤ y)).toArray.size = N) hc
  rw [hw]
  have e : (fun i : Int => if i < (N : Int) then Value.int .i64 ((ys.mergeSort fun x y => decide (x ≤ y)).toArray[i.toNat]!) else G i) = fun i : Int => if i < (N : Int) then iv ((ys.mergeSort fun x y => decide (x ≤ y)).getD i.toNat 0) else G i := by
   funext i
   by_cases c : i < N
   ·rw [if_pos c, if_pos c, getElem!_pos _ i.toNat (by simp [hyl]; omega), List.getD_eq_getElem?_getD, List.getElem?_eq_getElem (by rw [hl]; omega)]
    rfl
   ·rw [if_neg c, if_neg c]
  rw [e] at hs
  exact hs
structure Rise (N : Nat) (X : Int → Int) : Prop where
 inc : ∀ a b : Int, 0 ≤ a → a < b → b < N → X a < X b
theorem rise_of {N : Nat} {X : Int → Int} {zs : List Int} (hi : ∀ a b : Int, 0 ≤ a → a < N → 0 ≤ b → b < N → X a = X b → a = b) (hp : zs.Perm ((List.range N).map fun j : Nat => X (j : Int))) (hs : zs.Pairwise (· ≤ ·)) :
  Rise N (fun i => zs.getD i.toNat 0) ∧ ∀ k : Int, (∃ j : Int, (0 ≤ j ∧ j < N) ∧ zs.getD j.toNat 0 = k) ↔ ∃ j : Int, (0 ≤ j ∧ j < N) ∧ X j = k := by
 have hl : zs.length = N := by rw [hp.length_eq]; simp
 have hnd : ((List.range N).map fun j : Nat => X (j : Int)).Nodup := by
  refine List.pairwise_map.2 (List.nodup_range.imp_of_mem fun {a b} ha hb hne e => hne ?_)
  have ha := List.mem_range.1 ha
  have hb := List.mem_range.1 hb
  have := hi a b (by omega) (by omega) (by omega) (by omega) e
  omega
 have hz : zs.Nodup := hp.nodup_iff.2 hnd
 have hget : ∀ i : Nat, ∀ h : i < N, zs.getD i 0 = zs[i]'(by omega) := fun i h => by rw [List.getD_eq_getElem?_getD, List.getElem?_eq_getElem (by omega)]; rfl
 refine ⟨⟨fun a b a0 ab b1 => ?_⟩, fun k => ⟨fun ⟨j, ⟨j0, j1⟩, e⟩ => ?_, fun ⟨j, ⟨j0, j1⟩, e⟩ => ?_⟩⟩
 ·show zs.getD a.toNat 0 < zs.getD b.toNat 0
  rw [hget a.toNat (by omega), hget b.toNat (by omega)]
  have h1 := List.pairwise_iff_getElem.1 hs a.toNat b.toNat (by omega) (by omega) (by omega)
  have h2 : zs[a.toNat]'(by omega) ≠ zs[b.toNat]'(by omega) := fun e => by have := nodup_injM hz (by omega) (by omega) e; omega
  omega
 ·have hm : k ∈ zs := by rw [← e, hget j.toNat (by omega)]; exact List.getElem_mem _
  obtain ⟨i, hi2, e2⟩ := List.mem_map.1 (hp.mem_iff.1 hm)
  exact ⟨i, ⟨by omega, by have := List.mem_range.1 hi2; omega⟩, e2⟩
 ·have hm : k ∈ zs := hp.mem_iff.2 (List.mem_map.2 ⟨j.toNat, List.mem_range.2 (by omega), by rw [show ((j.toNat : Nat) : Int) = j by omega]; exact e⟩)
  obtain ⟨i, hi2, e2⟩ := List.mem_iff_getElem.1 hm
  exact ⟨i, ⟨by omega, by omega⟩, by rw [Int.toNat_natCast, hget i (by omega)]; exact e2⟩
theorem sortR_any (va : Option Addr) (vc N : Nat) (X : Int → Int) (c : Option Blk) (w : World) (B : Nat) (w0 : World) (H : List (Option Blk)) (hv : IRow (.slice va N vc) 3 N (fun i => iv (X i)) c) (hN2 : N ≤ 1000000) (hi : ∀ a b : Int, 0 ≤ a → a < N → 0 ≤ b → b < N → X a = X b → a = b) (hO : Own B w0 w (c :: H)) :
  Calls Tryz.prog 97 #[.slice va N vc] w fun e w' => e = .returned (.tuple #[]) ∧ ∃ (X' : Int → Int) (c' : Option Blk), IRow (.slice va N vc) 3 N (fun i => iv (X' i)) c' ∧ Rise N X' ∧ (∀ k : Int, (∃ j : Int, (0 ≤ j ∧ j < N) ∧ X' j = k) ↔ ∃ j : Int, (0 ≤ j ∧ j < N) ∧ X j = k) ∧ Own B w0 w' (c' :: H) := by
 by_cases h0 : N = 0
 ·subst h0
  have h := AnyM.slices_Sort_int_none { Tryz.sortInts with } va vc w
  change Calls Tryz.prog 97 _ _ _ at h
  exact h.mono fun e w' ⟨h1, h2⟩ => ⟨h1, X, c, hv, ⟨fun a b a0 ab b1 => by omega⟩, fun k => Iff.rfl, by rw [h2]; exact hO⟩
 ·obtain ⟨ob, G, rfl, hnc, hmx, rfl, hG⟩ := hv.asV (by omega)
  refine (sortI_any ob N vc X G w B w0 H (by omega) hnc hN2 hG hO).mono fun e w' ⟨he, zs, hp, hs, hO2⟩ => ⟨he, fun i => zs.getD i.toNat 0, _, IRow.ofV hnc hmx fun i i0 i1 => if_pos i1, (rise_of hi hp hs).1, (rise_of hi hp hs).2, hO2⟩
end Go.Proofs.YtlldeifbfpmbaaaGreat
set_option maxRecDepth 100000
namespace Go.Proofs.YtlldeifbfpmbaaaGreat
abbrev Arc := Int × Int × Int
def sL (φ : Arc → Int) : List Arc → Int
 | [] => 0
 | a :: A => φ a + sL φ A
namespace Lds
section
variable (l : Lds) (X : Int → Int) (m : Nat) (kilns : Int)
end
section
variable {l : Lds} {X : Int → Int} {m : Nat} {kilns : Int}
end
end Lds
end Go.Proofs.YtlldeifbfpmbaaaGreat
set_option maxRecDepth 100000
namespace Go.Proofs.YtlldeifbfpmbaaaGreat
open Go.RowKit Go.Proofs Go.MapKept
def ldF (l : Lds) : Int → List Value := fun i => [iv (l.r i), iv (l.d i), iv (l.len i), iv (l.wo i)]
end Go.Proofs.YtlldeifbfpmbaaaGreat
