import Derived.Test.YtbcjfjldmfljgaaGreatOps
namespace Go.Proofs.YtbcjfjldmfljgaaGreat
open Go.RowKit
theorem updI (g : Int → Int) (i e : Int) : upd (fun j => Value.int .i64 (g j)) i (.int .i64 e) = fun j => Value.int .i64 (upd g i e j) := by
 funext j; unfold upd; split <;> rfl
theorem lt_of_blt {d N : Nat} (h : Nat.blt d N = true) : d < N := Nat.lt_of_lt_of_le (Nat.lt_succ_self d) (Nat.le_of_ble_eq_true h)
theorem Own.drewN {B : Nat} {w0 w : World} {H : List (Option Blk)} (h : Own B w0 w H) (n : Nat) : Own B w0 (w.drewN n) H :=
 ⟨⟨h.below.os, h.below.tape, h.below.output, h.below.size, h.below.block⟩, h.hB, h.ge, h.nd, h.at_⟩
section
variable {P : Program} {f N : Nat} {k : List Item} {F : Fr} {w : World} {R : Ending → World → Prop} {ops : Array Oper} {o : Oper} {rest : List Oper} {B : Nat} {w0 : World} {H : List (Option Blk)}
theorem rl_w {d : Nat} {v : Value} {w' : World} (hg : o.guard = none) (hd : o.dst = some d) (hN : Nat.blt d N = true) (hv : ∀ a, Holds N F a → (execOp a.eval o).run P w = .ok (.value v) w') (h : RL P f N ops rest k ((d, v) :: F) w' R) :
  RL P f N ops (o :: rest) k F w R := by
 intro a ha
 refine wpList_plain hg fun K hK => ?_
 unfold Oper.wp
 rw [hv a ha]
 show K (a.put o.dst v) w'
 rw [hd]
 exact hK _ _ (h _ (ha.put (lt_of_blt hN) v))
theorem rl_make {T E : TypeId} {l c : Operand} {z : Value} {by_ : Nat} {k1 k2 : IntKind} {i j : Int} {d : Nat} (n : Nat) (hg : o.guard = none) (hd : o.dst = some d) (hN : Nat.blt d N = true) (ho : o.op = .makeSlice T l c)
  (hT : P.underlying T = some (.slice E)) (hinfo : (P.info? E).map (fun i => (i.zero, i.size, i.bytes)) = some (some z, 1, by_)) (hz : z.cells = #[z])
  (hO : Own B w0 w H) (hl : Fr.ev F l = some (.int k1 i)) (hc : Fr.ev F c = some (.int k2 j)) (hi : i = n) (hj : j = n) (hb : by_ * n ≤ 281474976710656 ∧ n ≤ 9223372036854775807)
  (h : ∀ b w', Own B w0 w' (some (vch b E n (fun _ => z)) :: H) → w.heap.size < w'.heap.size → RL P f N ops rest k ((d, .slice (some ⟨b, 0, none⟩) n n) :: F) w' R) : RL P f N ops (o :: rest) k F w R := by
 subst hi; subst hj
 refine rl_w hg hd hN (fun a ha => ?_) (h w.heap.size _ (hO.cons_made z n E) (by simp))
 have hrun := run_make_row' (P := P) T E z by_ hT hinfo hz k1 k2 n hb.1 hb.2 w
 unfold execOp
 simp only [ho, ha.ev hl, ha.ev hc, Sem.run_bind, hrun, Result.andThen_ok, Sem.run_pure]
def joinF {α : Type} (g : Int → α) (n : Int) (h : Int → α) : Int → α := fun j => if j < n then g j else h (j - n)
theorem run_appS {T ty E : TypeId} {i : TypeInfo} {z : Value} (hT : P.underlying T = some (.slice E)) (hi : P.info? E = some i) (hz : i.zero = some z) (hsz : i.size = 1) (hzs : z.cells.size = 1)
  {v : Value} {n : Nat} {G : Int → Value} {c : Option Blk} (kk : Nat) (hO : Own B w0 w H) (hk : H[kk]? = some c) (hr : IRow v E n G c)
  {ao : Option Addr} {m cp B' : Nat} {G2 : Int → Value} (hs : IAt B' w ao m G2) (h1 : ∀ j, (G2 j).oneCell' = true) (h63 : n + m ≤ maxLen) (hb : (n + m) * i.bytes ≤ 140737488355328) :
  ∃ v' c' w', (Builtin.append_ #[T, T] ty #[v, .slice ao m cp]).run P w = .ok v' w' ∧ Own B w0 w' (H.set kk c') ∧ w.heap.size ≤ w'.heap.size ∧ IRow v' E (n + m) (joinF G n G2) c' := by
 by_cases hm : m = 0
 ·subst hm
  have hset : H.set kk c = H := by
   obtain ⟨h1, h2⟩ := List.getElem?_eq_some_iff.1 hk
   rw [← h2]; exact List.set_getElem_self h1
  refine ⟨v, c, w, ?_, by rw [hset]; exact hO, Nat.le_refl _, ?_⟩
  ·have hf : (Builtin.firstCells 1 0 (.slice ao 0 cp)).run P w = .ok #[] w := by
    cases ao with
    | none => simp [Builtin.firstCells]
    | some ad => exact run_firstCells_some (P := P) w 1 0 ad 0 cp [] (by simp) (by simp)
   rcases hr with ⟨rfl, rfl, _⟩ | ⟨b, cap, g, rfl, hnc, _⟩
   ·simp [Builtin.append_, run_underlying hT, sizeOf, typeInfo, hi, hsz, Builtin.lenOf, hf]
   ·simp [Builtin.append_, run_underlying hT, sizeOf, typeInfo, hi, hsz, Builtin.lenOf, hf, hnc, storeCells]
  ·exact hr.congr fun j h0 hj => by unfold joinF; rw [if_pos hj]
 ·obtain ⟨b, off, e1, e2⟩ := hs.open
  obtain rfl := e1 (by omega)
  obtain ⟨v', c', w', hrun, h2, h3, h4⟩ := run_app (P := P) (ty := ty) hT hi hz (by omega) (by omega) kk hO hk (by rw [hsz]; exact hr) ⟨b, off, none⟩ m cp ((List.range m).map fun (j : Nat) => G2 (j : Int)) (by simp [hsz]) (by
   intro j u hu
   have hj : j < m := by
    have := (List.getElem?_eq_some_iff.1 hu).1
    simpa using this
   have hadd : (⟨b, off, none⟩ : Addr).add j = ⟨b, off + j, none⟩ := by unfold Addr.add; split <;> simp_all
   rw [hadd]
   have := e2 w (Below.refl _ _) (j : Int) (by omega) (by omega)
   simp only [Int.toNat_natCast] at this
   rw [this]
   simpa [hj] using hu) (by intro u hu; obtain ⟨j, _, rfl⟩ := List.mem_map.1 hu; exact h1 _) (by omega) h63 hb
  refine ⟨v', c', w', hrun, h2, h3, ?_⟩
  rw [hsz] at h4
  refine Row.congr h4 fun j hj => ?_
  simp only [appF, Nat.mul_one, joinF]
  by_cases e : j < n
  ·rw [if_pos e, if_pos (by omega)]
  ·rw [if_neg e, if_neg (by omega)]
   have hjm : j - n < m := by omega
   have e2 : (j : Int) - n = ((j - n : Nat) : Int) := by omega
   simp [hjm, e2]
theorem rl_gcall {j gs : Nat} {bb : Bool} {fo : Operand} {xs : Array Operand} {ats : Array TypeId} {g : FuncId} {cap : Array Value} {vs : List Value} {d : Nat} {Post : Ending → World → Prop}
  (hcl : ∃ fn, P.funcs[g]? = some fn ∧ (fn.name == "runtime.NumGoroutine") = false ∧ fn.body.isNone = false) (hg : o.guard = some (j, bb)) (hj : (ops[j]?).bind (·.dst) = some gs) (hb : Fr.get F gs = some (.bool bb)) (hd : o.dst = some d) (hN : Nat.blt d N = true)
  (ho : o.op = .call { callee := .value fo, args := xs, argTypes := ats }) (hf : Fr.ev F fo = some (.func (.func g) #[] cap)) (hx : Fr.evs F xs.toList = some vs)
  (hC : Calls P g (vs.toArray ++ cap) w Post) (h : ∀ e w', Post e w' → ∃ v, e = .returned v ∧ RL P f N ops rest k ((d, v) :: F) w' R) : RL P f N ops (o :: rest) k F w R := by
 intro a ha
 refine wpList_step fun K hK => ?_
 have hw : Region.wanted o (yielded ops a.tmps) = true := by simp [Region.wanted, hg, yielded_of ha hj hb]
 rw [if_pos hw]
 have hargs : xs.map a.eval = vs.toArray := by
  apply Array.ext'
  simpa using ha.evs hx
 have hcf : (callFunc g (vs.toArray ++ cap)).run P w = .ok (.enter g (vs.toArray ++ cap)) w := by
  obtain ⟨fn, h1, h2, h3⟩ := hcl
  have h2' : ¬ (fn.name = "runtime.NumGoroutine") := by simpa using h2
  have h3' : ¬ (fn.body = none) := by cases hb : fn.body <;> simp_all
  simp [callFunc, Result.andThen, h1, h2', h3']
 have hrun : (execOp a.eval o).run P w = .ok (.enter g (vs.toArray ++ cap)) w := by
  unfold execOp
  simp only [ho, resolve, Sem.run_bind, Deferred.ofValue, ha.ev hf, hargs]
  simp [invoke, Result.andThen, hcf]
 unfold Oper.wp
 rw [hrun]
 refine hC.mono fun e w' hp => ?_
 obtain ⟨v, rfl, hv⟩ := h e w' hp
 show K (a.put o.dst v) w'
 rw [hd]
 exact hK _ _ (hv _ (ha.put (lt_of_blt hN) v))
def Callable (P : Program) (g : FuncId) : Prop := ∃ fn, P.funcs[g]? = some fn ∧ (fn.name == "runtime.NumGoroutine") = false ∧ fn.body.isNone = false
theorem run_callFunc {g : FuncId} (hc : Callable P g) (args : Array Value) (w : World) : (callFunc g args).run P w = .ok (.enter g args) w := by
 obtain ⟨fn, h1, h2, h3⟩ := hc
 have h2' : ¬ (fn.name = "runtime.NumGoroutine") := by simpa using h2
 have h3' : ¬ (fn.body = none) := by cases hb : fn.body <;> simp_all
 simp [callFunc, Result.andThen, h1, h2', h3']
theorem rl_call {fo : Operand} {xs : Array Operand} {ats : Array TypeId} {g : FuncId} {cap : Array Value} {vs : List Value} {d : Nat} {Post : Ending → World → Prop} (hcl : Callable P g) (hg : o.guard = none) (hd : o.dst = some d) (hN : Nat.blt d N = true)
  (ho : o.op = .call { callee := .value fo, args := xs, argTypes := ats }) (hf : Fr.ev F fo = some (.func (.func g) #[] cap)) (hx : Fr.evs F xs.toList = some vs)
  (hC : Calls P g (vs.toArray ++ cap) w Post) (h : ∀ e w', Post e w' → ∃ v, e = .returned v ∧ RL P f N ops rest k ((d, v) :: F) w' R) : RL P f N ops (o :: rest) k F w R := by
 intro a ha
 refine wpList_plain hg fun K hK => ?_
 have hargs : xs.map a.eval = vs.toArray := by
  apply Array.ext'
  simpa using ha.evs hx
 have hrun : (execOp a.eval o).run P w = .ok (.enter g (vs.toArray ++ cap)) w := by
  unfold execOp
  simp only [ho, resolve, Sem.run_bind, Deferred.ofValue, ha.ev hf, hargs]
  simp [invoke, Result.andThen, run_callFunc hcl]
 unfold Oper.wp
 rw [hrun]
 refine hC.mono fun e w' hp => ?_
 obtain ⟨v, rfl, hv⟩ := h e w' hp
 show K (a.put o.dst v) w'
 rw [hd]
 exact hK _ _ (hv _ (ha.put (lt_of_blt hN) v))
def RQ (P : Program) (f N : Nat) (ops : Array Oper) (l : List Oper) (k : List Item) (F : Fr) (w : World) (R : Ending → World → Prop) : Prop :=
 ∀ a, Holds N F a → wpQuiet P ops (fun w' => ∃ n, w' = w.drewN n) (fun a' => ∀ w', (∃ n, w' = w.drewN n) → RunA P f k a' w' R) l a
theorem run_quiet {id : Nat} {l : List Oper} (hm : P.follows .mixedOrders = true) (hB : Region.lexB .any l.toArray = true) (h : RQ P f N l.toArray l k F w R) : Run P f N (.code (.region id l.toArray true) :: k) F w R :=
 fun a ha => runA_of_wp (wp_region_quiet_lit hm hB (h a ha))
theorem rq_nil (h : ∀ n, Run P f N k F (w.drewN n) R) : RQ P f N ops [] k F w R := by
 intro a ha
 refine wpQuiet_nil fun w' hw' => ?_
 obtain ⟨n, rfl⟩ := hw'
 exact h n a ha
theorem rq_v {d : Nat} {v : Value} (hg : o.guard = none) (hd : o.dst = some d) (hN : Nat.blt d N = true) (hv : ∀ n, OpV P N o F (w.drewN n) v) (h : RQ P f N ops rest k ((d, v) :: F) w R) : RQ P f N ops (o :: rest) k F w R := by
 intro a ha
 refine wpQuiet_step fun K hK => ?_
 rw [if_pos (by simp [Region.wanted, hg])]
 refine ⟨v, fun w' hw' => ?_, ?_⟩
 ·obtain ⟨n, rfl⟩ := hw'
  unfold Oper.quietAt
  rw [hv n a ha]
  exact ⟨rfl, rfl⟩
 ·rw [hd]
  exact hK _ (h _ (ha.put (lt_of_blt hN) v))
theorem rq_gv {j g d : Nat} {b : Bool} {v : Value} (hg : o.guard = some (j, b)) (hj : (ops[j]?).bind (·.dst) = some g) (hb : Fr.get F g = some (.bool b)) (hd : o.dst = some d) (hN : Nat.blt d N = true) (hv : ∀ n, OpV P N o F (w.drewN n) v)
  (h : RQ P f N ops rest k ((d, v) :: F) w R) : RQ P f N ops (o :: rest) k F w R := by
 intro a ha
 refine wpQuiet_step fun K hK => ?_
 rw [if_pos (by simp [Region.wanted, hg, yielded_of ha hj hb])]
 refine ⟨v, fun w' hw' => ?_, ?_⟩
 ·obtain ⟨n, rfl⟩ := hw'
  unfold Oper.quietAt
  rw [hv n a ha]
  exact ⟨rfl, rfl⟩
 ·rw [hd]
  exact hK _ (h _ (ha.put (lt_of_blt hN) v))
theorem rq_gskip {j g d : Nat} {b b' : Bool} (hg : o.guard = some (j, b)) (hj : (ops[j]?).bind (·.dst) = some g) (hb : Fr.get F g = some (.bool b')) (hne : (b' == b) = false) (hd : o.dst = some d) (hN : Nat.blt d N = true)
  (h : RQ P f N ops rest k ((d, undef) :: F) w R) : RQ P f N ops (o :: rest) k F w R := by
 intro a ha
 refine wpQuiet_step fun K hK => ?_
 have hw : Region.wanted o (yielded ops a.tmps) = false := by
  simp only [Region.wanted, hg, yielded_of ha hj hb]
  simpa using hne
 rw [if_neg (by simp [hw]), hd]
 exact hK _ (h _ (ha.put (lt_of_blt hN) undef))
theorem rq_split (g : Nat) {b : Bool} {l : List Oper} (hb : Fr.get F g = some (.bool b)) (ht : b = true → RQ P f N ops l k ((g, .bool true) :: F) w R) (hf : b = false → RQ P f N ops l k ((g, .bool false) :: F) w R) : RQ P f N ops l k F w R := by
 intro a ha
 have hw : ∀ b', b = b' → Holds N ((g, .bool b') :: F) a := fun b' e => ha.weaken fun i u hu => by
  unfold Fr.get at hu
  by_cases e' : i = g
  ·subst e'; simp at hu; rw [← hu, ← e]; exact hb
  ·have : Nat.beq i g = false := nbeq e'
   simpa [this] using hu
 cases hb' : b
 ·exact hf hb' a (hw false hb')
 ·exact ht hb' a (hw true hb')
theorem rq_split_dec (g : Nat) {p : Prop} {dp : Decidable p} {l : List Oper} (hb : Fr.get F g = some (.bool (decide p))) (ht : p → RQ P f N ops l k ((g, .bool true) :: F) w R) (hf : ¬ p → RQ P f N ops l k ((g, .bool false) :: F) w R) : RQ P f N ops l k F w R :=
 rq_split g hb (fun h => ht (of_decide_eq_true h)) (fun h => hf (of_decide_eq_false h))
theorem run_region_join {id : Nat} {l : List Oper} (d : Nat) (S : Value) (ks : List Nat) (hreg : (∀ F', Fr.get F' d = some S → Fr.Sub (Fr.keep F ks) F' → Run P f N k F' w R) → RL P f N l.toArray l k F w R)
  (hrest : Run P f N k ((d, S) :: Fr.keep F ks) w R) : Run P f N (.code (.region id l.toArray false) :: k) F w R :=
 run_region (hreg fun _ h1 h2 => hrest.use ⟨h1, h2⟩)
theorem run_quiet_join {id : Nat} {l : List Oper} (hm : P.follows .mixedOrders = true) (hB : Region.lexB .any l.toArray = true) (d : Nat) (S : Value) (ks : List Nat)
  (hreg : (∀ n F', Fr.get F' d = some S → Fr.Sub (Fr.keep F ks) F' → Run P f N k F' (w.drewN n) R) → RQ P f N l.toArray l k F w R)
  (hrest : ∀ n, Run P f N k ((d, S) :: Fr.keep F ks) (w.drewN n) R) : Run P f N (.code (.region id l.toArray true) :: k) F w R :=
 run_quiet hm hB (hreg fun n _ h1 h2 => (hrest n).use ⟨h1, h2⟩)
end
end Go.Proofs.YtbcjfjldmfljgaaGreat
