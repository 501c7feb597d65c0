import Derived.Test.YtbepolognfdkeaaGreatRgf
import Derived.Test.YtbepolognfdkeaaGreatFaA
import Derived.Maps.RangeRun
import Derived.Test.YtbepolognfdkeaaGreatTab
namespace Go.Proofs.YtbepolognfdkeaaGreat
open Go.RowKit
def och (b : Nat) (o : Obj) : Blk := ⟨b, 0, 0, fun _ => undef, some o⟩
section
variable {B : Nat} {w0 w : World} {H : List (Option Blk)}
theorem Own.atO (h : Own B w0 w H) (k : Nat) {b : Nat} {o : Obj} (hk : H[k]? = some (some (och b o))) : w.heap[b]? = some o := h.gets k hk
theorem Own.allocO (h : Own B w0 w H) (o : Obj) : Own B w0 (w.alloc o) (some (och w.heap.size o) :: H) := by
 have hp := h.past ((Below.refl _ w).alloc (Nat.le_refl _) o)
 refine hp.consB (x := och w.heap.size o) ?_ h.size fun y hy => ?_
 ·show (w.alloc o).heap[w.heap.size]? = some o
  exact World.alloc_heap_new w o
 ·have := blkIs.lt (h.at_ y hy)
  show w.heap.size ≠ y.b
  omega
theorem Own.putO (h : Own B w0 w H) (k : Nat) {b : Nat} {o : Obj} (hk : H[k]? = some (some (och b o))) (o' : Obj) : Own B w0 (w.putObj b o') (H.set k (some (och b o'))) := by
 have hge : B ≤ b := h.ge _ (List.mem_of_getElem? hk)
 have hlt : b < w.heap.size := blkIs.lt (h.gets k hk)
 have hoth : ∀ j, j < w.heap.size → j ≠ b → (w.putObj b o').heap[j]? = w.heap[j]? := fun j _ hj => World.putObj_heap_other hj
 refine h.updBB k hk ⟨rfl, rfl, rfl, ?_, fun j hj => World.putObj_heap_other (by omega)⟩ hoth ?_ hge (.inl rfl)
 ·show w.heap.size ≤ (w.putObj b o').heap.size
  simp [World.putObj]
 ·show (w.putObj b o').heap[b]? = some o'
  exact World.putObj_heap_same hlt
end
section
variable {P : Program} {f N : Nat} {k : List Item} {F : Fr} {w : World} {R : Ending → World → Prop} {ops : Array Oper} {o : Oper} {rest : List Oper}
theorem run_ci {n : Nat} {c : Code} (h : CI none n P N (QK P f k R) c F w) : Run P f N (.code c :: k) F w R := fun a ha => runA_of_wp ((wpIn_wide (n := n)).1 (h a ha))
theorem qk_run (h : Run P f N k F w R) : ∀ a, Holds N F a → QK P f k R .normal a w := h
def RM (P : Program) (f N : Nat) (ds : List Deferred) (k : List Item) (F : Fr) (w : World) (R : Ending → World → Prop) : Prop := ∀ a, Holds N F { a with defers := [] } → a.defers = ds → RunA P f k a w R
def RML (P : Program) (f N : Nat) (ds : List Deferred) (ops : Array Oper) (l : List Oper) (k : List Item) (F : Fr) (w : World) (R : Ending → World → Prop) : Prop := ∀ a, Holds N F { a with defers := [] } → a.defers = ds → wpList P ops (QK P f k R) l a w
variable {ds : List Deferred}
theorem rm_region {id : Nat} {l : List Oper} (h : RML P f N ds l.toArray l k F w R) : RM P f N ds (.code (.region id l.toArray false) :: k) F w R := fun a ha hd => runA_of_wp (wp_region_lit (h a ha hd))
theorem rml_nil (h : RM P f N ds k F w R) : RML P f N ds ops [] k F w R := h
theorem rml_v {d : Nat} {v : Value} (hg : o.guard = none) (hd : o.dst = some d) (hN : Nat.blt d N = true) (hv : OpV P N o F w v) (h : RML P f N ds ops rest k ((d, v) :: F) w R) : RML P f N ds ops (o :: rest) k F w R := by
 intro a ha hds
 refine wpList_plain hg fun K hK => ?_
 have h1 := hv _ ha
 change (execOp a.eval o).run P w = _ at h1
 unfold Oper.wp
 rw [h1]
 show K (a.put o.dst v) w
 rw [hd]
 refine hK _ _ (h _ ?_ ?_)
 ·exact ha.put (lt_of_blt hN) v
 ·exact hds
theorem rm_seq {x y : Code} (h : RM P f N ds (.code x :: .code y :: k) F w R) : RM P f N ds (.code (.seq x y) :: k) F w R := fun a ha hd => RunA.of_step (fun _ => .one step_seq) (h a ha hd)
theorem rm_ret {fn : Func} {v : Value} {D : Nat} (hf : P.funcs[f]? = some fn) (hD : w.heap[D]? = some (.deferred (some []))) (hres : ∀ a, Holds N F a → (results fn a.tmps).run P (w.putObj D (.deferred none)) = .ok v (w.putObj D (.deferred none))) (hR : R (.returned v) (w.putObj D (.deferred none))) :
  RM P f N [{ target := .collected D, args := #[] }] (.code .ret :: k) F w R := by
 intro a ha hd cs
 have hM : LeavesInM (FW none) 0 P fn a.tmps R a.defers .returning w := by
  rw [hd]
  refine ⟨by simp, .inl ⟨D, _, rfl, run_takeDeferred hD, ?_⟩⟩
  exact ⟨v, hres { a with defers := [] } ha, hR⟩
 obtain ⟨e', w'', fr', h1, h2, h3, h4⟩ := leaves_stepsInM (F := FW none) (n := 0) a.defers .returning w { (base f).at a (.code .ret :: k) with mode := .returning } cs rfl rfl rfl hf rfl trivial (room_wide _) hM
 exact ⟨e', w'', fr', h1, Comes.of_steps (.one step_ret) (comesIn_wide.1 h2), h3, h4⟩
def lrec (f : Nat) (tmps : Array Value) (ps : Array Tmp) (assign body : Code) (D : Nat) : Loop := { state := .ready, pending := none, fn := f, tmps := tmps, params := ps, assign := assign, body := body, defers := D }
theorem inBlock_exit {id : Nat} {Q : Exit → Act → World → Prop} {a : Act} (h : Q .normal a w) : Exit.inBlock id Q (.exit id) a w := by
 show (if id = id then _ else _)
 rw [if_pos rfl]
 exact h
theorem run_rangeFunc {id gf : Nat} {g : Operand} {ps : Array Tmp} {assign body : Code} {cap : Array Value} (hcl : Callable P gf) (hg : Fr.ev F g = some (.func (.func gf) #[] cap))
  (h : ∀ fn a, Holds N F a → Calls P gf (#[.func (.yield (w.heap.size + 1)) #[] #[]] ++ cap) ((w.alloc (.deferred (some []))).alloc (.loop (lrec fn a.tmps ps assign body w.heap.size))) fun e w3 =>
   ∃ (v : Value) (r : Loop), e = .returned v ∧ w3.heap[w.heap.size + 1]? = some (.loop r) ∧ r.state ≠ .busy ∧ (r.pending = none ∨ r.pending = some (.exit id)) ∧
    RM P f N [{ target := .collected w.heap.size, args := #[] }] k F (w3.putObj (w.heap.size + 1) (.loop { r with state := .exhausted })) R) :
  Run P f N (.code (.block id (.rangeFunc g ps assign body)) :: k) F w R := by
 intro a ha cs
 have hw : (Code.block id (.rangeFunc g ps assign body)).wpIn (FW none) 0 P (fun e a' w' => e = .normal ∧ RunA P f k a' w' R) a w := by
  refine wpIn_block (wpIn_rangeFunc fun fn _ => ?_)
  have hres : (resolve a.eval (rangeCall g (w.heap.size + 1)) 0).run P ((w.alloc (.deferred (some []))).alloc (.loop (lrec fn a.tmps ps assign body w.heap.size))) = .ok { target := .fn (.func gf) cap, args := #[.func (.yield (w.heap.size + 1)) #[] #[]] } ((w.alloc (.deferred (some []))).alloc (.loop (lrec fn a.tmps ps assign body w.heap.size))) := by
   simp only [rangeCall, resolve, Sem.run_bind, Deferred.ofValue, ha.ev hg]
   simp [Result.andThen, Act.eval]
  have hinv : (invoke (Target.fn (.func gf) cap) #[.func (.yield (w.heap.size + 1)) #[] #[]]).run P ((w.alloc (.deferred (some []))).alloc (.loop (lrec fn a.tmps ps assign body w.heap.size))) = .ok (.enter gf (#[.func (.yield (w.heap.size + 1)) #[] #[]] ++ cap)) ((w.alloc (.deferred (some []))).alloc (.loop (lrec fn a.tmps ps assign body w.heap.size))) := by
   simp [invoke, run_callFunc hcl]
  refine ⟨w.heap.size + 1, [{ target := .collected w.heap.size, args := #[] }], (w.alloc (.deferred (some []))).alloc (.loop (lrec fn a.tmps ps assign body w.heap.size)), { target := .fn (.func gf) cap, args := #[.func (.yield (w.heap.size + 1)) #[] #[]] }, (w.alloc (.deferred (some []))).alloc (.loop (lrec fn a.tmps ps assign body w.heap.size)), gf, #[.func (.yield (w.heap.size + 1)) #[] #[]] ++ cap, (w.alloc (.deferred (some []))).alloc (.loop (lrec fn a.tmps ps assign body w.heap.size)), run_enterLoop_outer fn a.tmps ps assign body, hres, fun _ _ => trivial, hinv, fun hd => absurd hd (by simp [FW, Fence.wide]), ?_⟩
  refine callsFW ((h fn a ha).mono fun e w3 he => ?_)
  obtain ⟨v, r, rfl, h1, h2, h3, h4⟩ := he
  refine ⟨r.pending, _, run_endLoop h1 h2, ?_⟩
  have hds : ({ a with defers := [{ target := .collected w.heap.size, args := #[] }] ++ a.defers } : Act).defers = [{ target := .collected w.heap.size, args := #[] }] := by simp [ha.defs]
  have hcont := h4 { a with defers := [{ target := .collected w.heap.size, args := #[] }] ++ a.defers } ⟨ha.size, rfl, ha.at_⟩ hds
  rcases h3 with h3 | h3
  ·rw [h3] at hcont ⊢
   exact ⟨rfl, hcont⟩
  ·rw [h3] at hcont ⊢
   exact wpIn_exit (inBlock_exit ⟨rfl, hcont⟩)
 obtain ⟨e, a', w', hq, harr⟩ := (wpIn_wide (n := 0)).1 hw (base f) k cs
 obtain ⟨rfl, hq⟩ := hq
 obtain ⟨e, w'', fr, h1, h2, h3, h4⟩ := hq cs
 exact ⟨e, w'', fr, h1, Comes.of_steps harr h2, h3, h4⟩
theorem yieldAt_round {l p n : Nat} {r : Loop} {v : Value} (hl : w.heap[l]? = some (.loop r)) (hps : r.params = #[p]) (hsz : r.tmps.size = N) (hF : ∀ i u, Fr.get F i = some u → r.tmps[i]? = some u) (hp : Nat.blt p N = true)
  (h : CI (some l) n P N (Exit.then (fun a₁ w₁ => ∃ w₂, (Instr.beginRound l).run P w₁ = .ok () w₂ ∧ r.body.wpIn (FW (some l)) n P (roundPost P l R) a₁ w₂) (fun _ _ _ => False)) r.assign ((p, v) :: F) w) : YieldAt (FW none) n P l #[v] w R := by
 have hr := run_yield (P := P) (args := #[v]) hl (by rw [hps]; rfl)
 refine ⟨_, _, _, _, hr, roundIn_of_wpIn trivial ?_⟩
 have h0 : Holds N F { tmps := r.tmps, defers := [] } := ⟨hsz, rfl, hF⟩
 have h1 := h _ (h0.put (lt_of_blt hp) v)
 rw [hps]
 simp [Act.put] at h1 ⊢
 exact h1
theorem round_body {l n : Nat} {c : Code} (h : ∀ a, Holds N F a → ∃ w₂, (Instr.beginRound l).run P w = .ok () w₂ ∧ c.wpIn (FW (some l)) n P (roundPost P l R) a w₂) :
  ∀ a, Holds N F a → Exit.then (fun a₁ w₁ => ∃ w₂, (Instr.beginRound l).run P w₁ = .ok () w₂ ∧ c.wpIn (FW (some l)) n P (roundPost P l R) a₁ w₂) (fun _ _ _ => False) .normal a w := h
end
end Go.Proofs.YtbepolognfdkeaaGreat
set_option maxRecDepth 100000
namespace Go.Proofs.YtbepolognfdkeaaGreat
open Go.RowKit Go.Proofs
theorem inBlock_normal {Q : Exit → Act → World → Prop} {id : Nat} {a : Act} {w : World} (hq : Q .normal a w) : Exit.inBlock id Q .normal a w := hq
section
variable {P : Program} {N n l B k : Nat} {F : Fr} {w w0 : World} {R : Ending → World → Prop} {a : Act} {H : List (Option Blk)} {r : Loop}
theorem beginK (h : Own B w0 w H) (k : Nat) (hk : H[k]? = some (some (och l (.loop r)))) (hs : r.state = .ready) {c : Code}
  (hb : ∀ w2, Own B w0 w2 (H.set k (some (och l (.loop { r with state := .busy })))) → CI (some l) n P N (roundPost P l R) c F w2) : ∀ a, Holds N F a → ∃ w₂, (Instr.beginRound l).run P w = .ok () w₂ ∧ c.wpIn (FW (some l)) n P (roundPost P l R) a w₂ :=
 fun a ha => ⟨_, run_beginRound (h.atO k hk) hs, hb _ (h.putO k hk _) a ha⟩
theorem endK (h : Own B w0 w H) (k : Nat) (hk : H[k]? = some (some (och l (.loop r)))) (hR : ∀ w2, Own B w0 w2 (H.set k (some (och l (.loop { r with state := .ready, pending := none })))) → R (.returned (.bool true)) w2) : roundPost P l R .normal a w :=
 ⟨_, _, run_endRound none (h.atO k hk), hR _ (h.putO k hk _)⟩
end
section
variable {P : Program} {N : Nat} {F : Fr} {w : World} {Q : Exit → Act → World → Prop} {ops : Array Oper} {o : Oper} {rest : List Oper}
theorem li_yield {l d : Nat} {fo : Operand} {xs : Array Operand} {ats : Array TypeId} {vs : List Value} {Post : Value → World → Prop} (hg : o.guard = none) (hd : o.dst = some d) (hN : Nat.blt d N = true) (ho : o.op = .call { callee := .value fo, args := xs, argTypes := ats })
  (hf : Fr.ev F fo = some (.func (.yield l) #[] #[])) (hx : Fr.evs F xs.toList = some vs) (hY : YieldAt (FW none) 0 P l vs.toArray w fun e w' => ∃ v, e = .returned v ∧ Post v w')
  (h : ∀ v w', Post v w' → LI none 0 P N ops Q rest ((d, v) :: F) w') : LI none 0 P N ops Q (o :: rest) F w := fun a ha =>
 wpListIn_plain hg fun K hK => wpIn_yield hd hN ho hf hx hY ha fun v a' w' hp ha' => hK _ _ (h v w' hp a' ha')
end
end Go.Proofs.YtbepolognfdkeaaGreat
set_option maxRecDepth 100000
namespace Go.Proofs.YtbepolognfdkeaaGreat
open Go.RowKit Go.Proofs Go.MapKept
theorem entsM_mem : ∀ (L : List (Int × Value)) (s : Nat) (e : MapEntry), e ∈ ents L s → ∃ i k v, L[i]? = some (k, v) ∧ e = ⟨.int .i64 k, v, s + i⟩
 | [], _, _, h => by cases h
 | (k, v) :: r, s, e, h => by
  rcases List.mem_cons.1 h with rfl | h
  ·exact ⟨0, k, v, rfl, rfl⟩
  ·obtain ⟨i, k', v', h1, h2⟩ := entsM_mem r (s + 1) e h
   exact ⟨i + 1, k', v', h1, by rw [h2]; congr 1; omega⟩
theorem entsM_at : ∀ (L : List (Int × Value)) (s i : Nat) (k : Int) (v : Value), L[i]? = some (k, v) → (⟨.int .i64 k, v, s + i⟩ : MapEntry) ∈ ents L s
 | (k0, v0) :: r, s, 0, k, v, h => by cases h; exact List.mem_cons_self ..
 | (k0, v0) :: r, s, i + 1, k, v, h => by
  have := entsM_at r (s + 1) i k v h
  rw [show s + 1 + i = s + (i + 1) by omega] at this
  exact List.mem_cons_of_mem _ this
theorem entsM_born : ∀ (L : List (Int × Value)) (s : Nat), ((ents L s).map (·.born)).Nodup ∧ ∀ b ∈ (ents L s).map (·.born), s ≤ b
 | [], _ => ⟨by simp [ents], fun b h => nomatch h⟩
 | (k, v) :: r, s => by
  obtain ⟨h1, h2⟩ := entsM_born r (s + 1)
  refine ⟨List.nodup_cons.2 ⟨fun h => ?_, h1⟩, fun b hb => ?_⟩
  ·have : s + 1 ≤ s := h2 _ h; omega
  ·rcases List.mem_cons.1 hb with rfl | hb
   ·exact Nat.le_refl _
   ·have := h2 b hb; omega
theorem nodup_injM {α : Type} {l : List α} (h : l.Nodup) {i j : Nat} (hi : i < l.length) (hj : j < l.length) (e : l[i] = l[j]) : i = j := by
 have hp := List.pairwise_iff_getElem.1 h
 rcases Nat.lt_trichotomy i j with c | c | c
 ·exact absurd e (hp i j hi hj c)
 ·exact c
 ·exact absurd e.symm (hp j i hj hi c)
abbrev itc (r bm n : Nat) (seen : Array Nat) : Blk := och r (.mapIter (some bm) n seen n)
section
variable {P : Program} {N : Nat} {o : Oper} {F : Fr} {w w0 : World} {B : Nat} {H : List (Option Blk)}
theorem ow_rangeM {T kt et : TypeId} {x : Operand} {d bm : Nat} {L : List (Int × Value)} (hd : o.dst = some d) (hN : Nat.blt d N = true) (ho : o.op = .range T x) (hT : P.underlying T = some (.map kt et)) (hO : Own B w0 w H) (kk : Nat) (hk : H[kk]? = some (some (mch bm L))) (hx : Fr.ev F x = some (.map (some bm))) :
  OpW P N o F w (fun F' w' => ∃ r, F' = (d, .pointer (some ⟨r, 0, none⟩)) :: F ∧ Own B w0 w' (some (itc r bm L.length #[]) :: H)) := by
 refine (ow_w (v := .pointer (some ⟨w.heap.size, 0, none⟩)) (w' := w.alloc (.mapIter (some bm) L.length #[] L.length)) hd hN (fun a ha => ?_)).mono fun F' w' ⟨h1, h2⟩ => ⟨w.heap.size, h1, by rw [h2]; exact hO.allocO _⟩
 have hrun := run_range_map (P := P) w T kt et bm _ _ hT (hO.mapAt kk hk)
 unfold execOp
 rw [ho]
 simp [ha.ev hx, hrun, Result.andThen]
theorem ow_nextM {x : Operand} {d r bm : Nat} {L : List (Int × Value)} {seen : Array Nat} (hd : o.dst = some d) (hN : Nat.blt d N = true) (ho : o.op = .next x false) (hO : Own B w0 w H) (ki : Nat) (hi : H[ki]? = some (some (itc r bm L.length seen))) (kk : Nat) (hk : H[kk]? = some (some (mch bm L))) (hx : Fr.ev F x = some (.pointer (some ⟨r, 0, none⟩))) :
  OpW P N o F w (fun F' w' => ∃ (b : Bool) (xs : Array Value) (seen' : Array Nat), F' = (d, .tuple xs) :: F ∧ xs[0]? = some (.bool b) ∧ Own B w0 w' (H.set ki (some (itc r bm L.length seen'))) ∧ (b = false → (∀ i : Nat, i < L.length → i ∈ seen) ∧ seen' = seen) ∧
   (b = true → ∃ (i : Nat) (k : Int) (v : Value), L[i]? = some (k, v) ∧ i ∉ seen ∧ seen' = seen.push i)) := by
 intro a ha K Q hK
 have hm := hO.mapAt kk hk
 have hit : w.heap[r]? = some (.mapIter (some bm) L.length seen L.length) := hO.atO ki hi
 have hold : ∀ y ∈ (ents L 0).toArray.toList, y.born < L.length := fun y hy => by
  obtain ⟨i, k, v, h1, rfl⟩ := entsM_mem L 0 y hy
  have := (List.getElem?_eq_some_iff.1 h1).1
  show 0 + i < _
  omega
 rcases run_next_at (P := P) w o.type r bm L.length L.length seen _ _ hit hm hold (Nat.le_refl _) with ⟨h0, hrun⟩ | ⟨e, he, w1, hw1, hrun⟩
 ·have hv : (execOp a.eval o).run P w = .ok (.value (.tuple #[.bool false])) w := by
   unfold execOp
   rw [ho]
   simp [ha.ev hx, hrun, Result.andThen]
  have hset : H.set ki (some (itc r bm L.length seen)) = H := by
   obtain ⟨h1, h2⟩ := List.getElem?_eq_some_iff.1 hi
   rw [← h2]; exact List.set_getElem_self h1
  unfold Oper.wp
  rw [hv]
  show K (a.put o.dst _) w
  rw [hd]
  refine hK _ _ _ ⟨false, _, seen, rfl, rfl, by rw [hset]; exact hO, fun _ => ⟨fun i hi2 => ?_, rfl⟩, fun h => Bool.noConfusion h⟩ (ha.put (lt_of_blt hN) _)
  have hL : L[i]? = some ((L[i]).1, (L[i]).2) := by rw [List.getElem?_eq_getElem hi2]
  have := all_seen _ seen h0 _ (show (⟨.int .i64 (L[i]).1, (L[i]).2, 0 + i⟩ : MapEntry) ∈ (ents L 0).toArray.toList from entsM_at L 0 i _ _ hL)
  rw [Nat.zero_add] at this
  simpa using this
 ·have hv : (execOp a.eval o).run P w = .ok (.value (.tuple #[.bool true, e.key, e.val])) (Go.ChangeMaps.setBlock w1 r (.mapIter (some bm) L.length (seen.push e.born) L.length)) := by
   unfold execOp
   rw [ho]
   simp [ha.ev hx, hrun, Result.andThen]
  have hO1 : Own B w0 w1 H := by
   rcases hw1 with rfl | rfl
   ·exact hO
   ·exact hO.drew
  unfold Oper.wp
  rw [hv]
  show K (a.put o.dst _) _
  rw [hd]
  refine hK _ _ _ ⟨true, _, seen.push e.born, rfl, rfl, hO1.putO ki hi _, fun h => Bool.noConfusion h, fun _ => ?_⟩ (ha.put (lt_of_blt hN) _)
  have hml := mem_left he
  obtain ⟨i, k, v, h1, h2⟩ := entsM_mem L 0 e hml.1
  refine ⟨i, k, v, h1, ?_, by rw [h2]; show seen.push (0 + i) = _; rw [Nat.zero_add]⟩
  have h3 := hml.2
  rw [h2] at h3
  dsimp only at h3
  rw [Nat.zero_add] at h3
  simpa using h3
theorem ov_entryM {x : Operand} {r bm i : Nat} {k : Int} {v : Value} {L : List (Int × Value)} {seen : Array Nat} (ho : o.op = .entry x) (hO : Own B w0 w H) (ki : Nat) (hi : H[ki]? = some (some (itc r bm L.length (seen.push i)))) (kk : Nat) (hk : H[kk]? = some (some (mch bm L))) (hi2 : L[i]? = some (k, v)) (hx : Fr.ev F x = some (.pointer (some ⟨r, 0, none⟩))) :
  OpV P N o F w (.tuple #[.int .i64 k, v]) := by
 intro a ha
 have he := entsM_at L 0 i k v hi2
 rw [Nat.zero_add] at he
 have hrun := run_entry_at (P := P) w r bm L.length seen _ _ (⟨.int .i64 k, v, i⟩ : MapEntry) (hO.atO ki hi) (hO.mapAt kk hk) he (entsM_born L 0).1
 unfold execOp
 rw [ho]
 simp [ha.ev hx, hrun, Result.andThen]
end
structure KeysTo (L : List (Int × Value)) (seen : Array Nat) (N : Nat) (X : Int → Int) : Prop where
 len : N = seen.size
 lt : ∀ i : Nat, i ∈ seen → i < L.length
 nd : seen.toList.Nodup
 at_ : ∀ j : Nat, j < N → ∃ v, L[seen[j]!]? = some (X j, v)
structure KeysOf (L : List (Int × Value)) (N : Nat) (X : Int → Int) : Prop where
 len : N = L.length
 inj : ∀ a b : Int, 0 ≤ a → a < N → 0 ≤ b → b < N → X a = X b → a = b
 mem : ∀ k : Int, (∃ j : Int, (0 ≤ j ∧ j < N) ∧ X j = k) ↔ k ∈ L.map (·.1)
theorem KeysTo.nil (L : List (Int × Value)) (X : Int → Int) : KeysTo L #[] 0 X := ⟨rfl, fun i h => by simp at h, by simp, fun j hj => by omega⟩
theorem KeysTo.step {L : List (Int × Value)} {seen : Array Nat} {N i : Nat} {X : Int → Int} {k : Int} {v : Value} (h : KeysTo L seen N X) (hi : L[i]? = some (k, v)) (hn : i ∉ seen) : KeysTo L (seen.push i) (N + 1) (upd X N k) := by
 have hl := h.len
 refine ⟨by rw [Array.size_push, hl], fun j hj => ?_, ?_, fun j hj => ?_⟩
 ·rcases Array.mem_push.1 hj with hj | hj
  ·exact h.lt j hj
  ·rw [hj]; exact (List.getElem?_eq_some_iff.1 hi).1
 ·rw [Array.toList_push]
  refine List.nodup_append.2 ⟨h.nd, by simp, fun a ha b hb => ?_⟩
  rw [List.mem_singleton.1 hb]
  exact fun e => hn (by rw [← e]; exact Array.mem_toList_iff.1 ha)
 ·by_cases e : j = N
  ·refine ⟨v, ?_⟩
   rw [e, upd_same, getElem!_pos (seen.push i) N (by rw [Array.size_push]; omega)]
   have : (seen.push i)[N]'(by rw [Array.size_push]; omega) = i := by
    simp [hl]
   rw [this]; exact hi
  ·obtain ⟨u, hu⟩ := h.at_ j (by omega)
   refine ⟨u, ?_⟩
   rw [upd_ne _ _ (by omega)]
   have e2 : (seen.push i)[j]! = seen[j]! := by
    rw [getElem!_pos (seen.push i) j (by rw [Array.size_push]; omega), getElem!_pos seen j (by omega)]
    exact Array.getElem_push_lt (by omega)
   rw [e2]; exact hu
theorem KeysTo.all {L : List (Int × Value)} {seen : Array Nat} {N : Nat} {X : Int → Int} (h : KeysTo L seen N X) (hn : (L.map (·.1)).Nodup) (ha : ∀ i : Nat, i < L.length → i ∈ seen) : KeysOf L N X := by
 have hp : seen.toList.Perm (List.range L.length) := (List.perm_ext_iff_of_nodup h.nd List.nodup_range).2 fun i => ⟨fun hi => List.mem_range.2 (h.lt i (Array.mem_toList_iff.1 hi)), fun hi => Array.mem_toList_iff.2 (ha i (List.mem_range.1 hi))⟩
 have hN : N = L.length := by
  have := hp.length_eq
  rw [h.len]; simpa using this
 have hkey : ∀ i j : Nat, ∀ k u v, L[i]? = some (k, u) → L[j]? = some (k, v) → i = j := fun i j k u v h1 h2 => by
  have e1 : (L.map (·.1))[i]? = some k := by rw [List.getElem?_map, h1]; rfl
  have e2 : (L.map (·.1))[j]? = some k := by rw [List.getElem?_map, h2]; rfl
  obtain ⟨a1, a2⟩ := List.getElem?_eq_some_iff.1 e1
  obtain ⟨b1, b2⟩ := List.getElem?_eq_some_iff.1 e2
  exact nodup_injM hn a1 b1 (a2.trans b2.symm)
 refine ⟨hN, fun a b a0 a1 b0 b1 e => ?_, fun k => ⟨fun ⟨j, ⟨j0, j1⟩, e⟩ => ?_, fun hk => ?_⟩⟩
 ·obtain ⟨a', rfl⟩ := Int.eq_ofNat_of_zero_le a0
  obtain ⟨b', rfl⟩ := Int.eq_ofNat_of_zero_le b0
  obtain ⟨u, hu⟩ := h.at_ a' (by omega)
  obtain ⟨v, hv⟩ := h.at_ b' (by omega)
  rw [e] at hu
  have hs := hkey _ _ _ _ _ hu hv
  have hl := h.len
  rw [getElem!_pos seen a' (by omega), getElem!_pos seen b' (by omega)] at hs
  have hnd := h.nd
  have : a' = b' := by
   have h1 : seen.toList[a']'(by simp; omega) = seen.toList[b']'(by simp; omega) := by simpa using hs
   exact nodup_injM hnd (by simp; omega) (by simp; omega) h1
  omega
 ·obtain ⟨j', rfl⟩ := Int.eq_ofNat_of_zero_le j0
  obtain ⟨u, hu⟩ := h.at_ j' (by omega)
  rw [e] at hu
  exact List.mem_map.2 ⟨(k, u), List.mem_of_getElem? hu, rfl⟩
 ·obtain ⟨⟨k', v⟩, hm, rfl⟩ := List.mem_map.1 hk
  obtain ⟨i, hi⟩ := List.mem_iff_getElem?.1 hm
  have his := ha i (List.getElem?_eq_some_iff.1 hi).1
  obtain ⟨j, hj, e⟩ := Array.mem_iff_getElem.1 his
  obtain ⟨u, hu⟩ := h.at_ j (by rw [h.len]; exact hj)
  rw [getElem!_pos seen j hj, e, hi] at hu
  cases hu
  exact ⟨j, ⟨by omega, by rw [h.len]; omega⟩, rfl⟩
end Go.Proofs.YtbepolognfdkeaaGreat
set_option maxRecDepth 100000
namespace Go.Proofs.YtbepolognfdkeaaGreat
open Go.RowKit Go.Proofs
theorem rl_gow {P : Program} {f N : Nat} {ops : Array Oper} {o : Oper} {rest : List Oper} {k : List Item} {F : Fr} {w : World} {R : Ending → World → Prop} {j g : Nat} {b : Bool} {Post : Fr → World → Prop} (hg : o.guard = some (j, b)) (hj : (ops[j]?).bind (·.dst) = some g) (hb : Fr.get F g = some (.bool b)) (hw : OpW P N o F w Post)
  (h : ∀ F' w', Post F' w' → RL P f N ops rest k F' w' R) : RL P f N ops (o :: rest) k F w R := by
 intro a ha
 refine wpList_step fun K hK => ?_
 have hw1 : Region.wanted o (yielded ops a.tmps) = true := by simp [Region.wanted, hg, yielded_of ha hj hb]
 rw [if_pos hw1]
 exact hw a ha K _ fun F' a' w' hp ha' => hK _ _ (h F' w' hp a' ha')
end Go.Proofs.YtbepolognfdkeaaGreat
set_option maxRecDepth 100000
namespace Go.Proofs.YtbepolognfdkeaaGreat
open Go.RowKit Go.Proofs
theorem SRow.addr {ao : Option Addr} {m cap : Nat} {E : TypeId} {s n : Nat} {G : Int → List Value} {c : Option Blk} (h : SRow (.slice ao m cap) E s n G c) : ∃ b, (0 < n → ao = some ⟨b, 0, none⟩) := by
 rcases h with ⟨_, rfl, _⟩ | ⟨b, cap', g, h1, _⟩
 ·exact ⟨0, fun h => absurd h (Nat.lt_irrefl _)⟩
 ·cases h1; exact ⟨b, fun _ => rfl⟩
theorem IRow.addr {ao : Option Addr} {m cap : Nat} {E : TypeId} {n : Nat} {G : Int → Value} {c : Option Blk} (h : IRow (.slice ao m cap) E n G c) : ∃ b, (0 < n → ao = some ⟨b, 0, none⟩) := by
 rcases h with ⟨_, rfl, _⟩ | ⟨b, cap', g, h1, _⟩
 ·exact ⟨0, fun h => absurd h (Nat.lt_irrefl _)⟩
 ·cases h1; exact ⟨b, fun _ => rfl⟩
theorem ow_storeI1 {N : Nat} {o : Oper} {F : Fr} {w w0 : World} {B : Nat} {H : List (Option Blk)} {T E : TypeId} {p x : Operand} {b n cap : Nat} {G : Int → Value} {c : Option Blk} {ao : Option Addr} {i : Int} {v : Value} (hd : o.dst = none) (ho : o.op = .store T p x) (hi : (Tryz.prog.info? T).map (·.size) = some 1)
  (hO : Own B w0 w H) (kk : Nat) (hr : IRow (.slice ao n cap) E n G c) (hk : H[kk]? = some c) (hao : 0 < n → ao = some ⟨b, 0, none⟩) (hp : Fr.ev F p = some (.pointer (some ⟨b, 0 + i.toNat, none⟩))) (hb : 0 ≤ i ∧ i < n)
  (hx : Fr.ev F x = some v) (h1 : v.oneCell' = true) :
  OpW Tryz.prog N o F w (fun F' w' => ∃ c', F' = F ∧ Own B w0 w' (H.set kk c') ∧ IRow (.slice ao n cap) E n (upd G i v) c' ∧ w'.heap.size = w.heap.size) := by
 obtain ⟨b', G', e1, e2, e3, rfl, e5⟩ := hr.asV (by omega)
 have := (hao (by omega)).symm.trans e1
 simp only [Option.some.injEq, Addr.mk.injEq] at this
 obtain rfl := this.1
 refine (ow_store hd ho hi hO kk hk hp ⟨hb.1, by omega⟩ hx h1).mono fun F' w' ⟨q1, q2, q3⟩ => ⟨_, q1, q2, ?_, q3⟩
 rw [e1]
 refine IRow.ofV e2 e3 fun j j0 j1 => ?_
 by_cases e : j = i
 ·subst e; simp
 ·rw [upd_ne _ _ e, upd_ne _ _ e]; exact e5 j j0 j1
end Go.Proofs.YtbepolognfdkeaaGreat
set_option maxRecDepth 100000
namespace Go.Proofs.YtbepolognfdkeaaGreat
open Go.RowKit Go.Proofs
theorem OTab.get9 {B : Nat} {w0 w : World} {v : Value} {T1 T2 : TypeId} {n : Nat} {L : Int → Nat} {F : Int → Int → Value} {H R : List (Option Blk)} (h : OTab v T1 T2 n L F H) (ho : Own B w0 w (H ++ R)) (i : Nat) (hi : i < n) :
  ∃ (c : Option Blk) (rv : Int → Value) (ch : Nat → Option Blk), IRow v T1 n rv c ∧ (∀ r : Nat, r < n → IRow (rv r) T2 (L r) (F r) (ch r)) ∧ Own B w0 w (ch i :: c :: (((List.range n).erase i).map ch ++ R)) := by
 obtain ⟨c, rv, ch, rfl, h2, h3⟩ := h
 refine ⟨c, rv, ch, h2, h3, ho.perm ?_⟩
 have p := (List.perm_cons_erase (List.mem_range.2 hi)).map ch
 exact ((p.append_right R).cons c).trans (List.Perm.swap _ _ _)
theorem OTab.put9 {B : Nat} {w0 w : World} {v x : Value} {T1 T2 : TypeId} {n m : Nat} {L : Int → Nat} {F : Int → Int → Value} {G : Int → Value} {R : List (Option Blk)} {c cr : Option Blk} {rv : Int → Value} {ch : Nat → Option Blk} (i : Nat) (hi : i < n)
  (hv : IRow v T1 n (upd rv i x) c) (h3 : ∀ r : Nat, r < n → IRow (rv r) T2 (L r) (F r) (ch r)) (hx : IRow x T2 m G cr) (ho : Own B w0 w (cr :: c :: (((List.range n).erase i).map ch ++ R))) :
  ∃ H, OTab v T1 T2 n (upd L i m) (upd F i G) H ∧ Own B w0 w (H ++ R) := by
 refine ⟨_, ⟨c, _, fun r => if r = i then cr else ch r, rfl, hv, fun r hr => ?_⟩, ho.perm ?_⟩
 ·show IRow _ _ _ _ (if r = i then cr else ch r)
  by_cases e : r = i
  ·subst e; rw [upd_same, upd_same, upd_same, if_pos rfl]; exact hx
  ·rw [upd_ne _ _ (by omega), upd_ne _ _ (by omega), upd_ne _ _ (by omega), if_neg e]; exact h3 r hr
 ·have p := (List.perm_cons_erase (List.mem_range.2 hi)).map (fun r => if r = i then cr else ch r)
  have e : ((List.range n).erase i).map (fun r => if r = i then cr else ch r) = ((List.range n).erase i).map ch := List.map_congr_left fun r hr => by
   have : r ≠ i := fun e => by rw [e] at hr; exact (List.Nodup.not_mem_erase List.nodup_range) hr
   exact if_neg this
  simp only [List.map_cons, if_true, e] at p
  exact (List.Perm.swap _ _ _).trans ((p.symm.append_right R).cons c)
end Go.Proofs.YtbepolognfdkeaaGreat
