import Derived.Test.YtlldeifbfpmbaaaGreatHeld
import Derived.Deep.Quiet
import Derived.Test.YtlldeifbfpmbaaaGreatFbE
namespace Go.Proofs.YtlldeifbfpmbaaaGreat
open Go.RowKit
section
variable {P : Program} {f N : Nat} {k : List Item} {F : Fr} {w : World} {R : Ending → World → Prop} {ops : Array Oper} {o : Oper} {rest : List Oper} {C : World → Prop}
def RKl (P : Program) (f N : Nat) (ops : Array Oper) (C : World → Prop) (l : List Oper) (k : List Item) (F : Fr) (R : Ending → World → Prop) : Prop :=
 ∀ a, Holds N F a → wpQuiet P ops C (fun a' => ∀ w', C w' → RunA P f k a' w' R) l a
theorem run_class {id : Nat} {l : List Oper} (C : World → Prop) (h0 : C w.drew) (hm : P.follows .mixedOrders = true) (hB : Region.lexB .any l.toArray = true) (h : RKl P f N l.toArray C l k F R) : Run P f N (.code (.region id l.toArray true) :: k) F w R :=
 fun a ha => runA_of_wp (wp_region_quiet (C := C) hm hB h0 (by exact h a ha))
theorem rk_nil (h : ∀ w', C w' → Run P f N k F w' R) : RKl P f N ops C [] k F R := fun a ha => wpQuiet_nil fun w' hw' => h w' hw' a ha
theorem rk_v {d : Nat} {v : Value} (hg : o.guard = none) (hd : o.dst = some d) (hN : Nat.blt d N = true) (hv : ∀ w', C w' → OpV P N o F w' v) (h : RKl P f N ops C rest k ((d, v) :: F) R) : RKl P f N ops C (o :: rest) k F R := by
 intro a ha
 refine wpQuiet_step fun K hK => ?_
 rw [if_pos (by simp [Region.wanted, hg])]
 refine ⟨v, fun w' hw' => ?_, ?_⟩
 ·unfold Oper.quietAt
  rw [hv w' hw' a ha]
  exact ⟨rfl, rfl⟩
 ·rw [hd]
  exact hK _ (h _ (ha.put (lt_of_blt hN) v))
theorem rk_gv {j g d : Nat} {b : Bool} {v : Value} (hg : o.guard = some (j, b)) (hj : (ops[j]?).bind (·.dst) = some g) (hb : Fr.get F g = some (.bool b)) (hd : o.dst = some d) (hN : Nat.blt d N = true) (hv : ∀ w', C w' → OpV P N o F w' v)
  (h : RKl P f N ops C rest k ((d, v) :: F) R) : RKl P f N ops C (o :: rest) k F R := by
 intro a ha
 refine wpQuiet_step fun K hK => ?_
 rw [if_pos (by simp [Region.wanted, hg, yielded_of ha hj hb])]
 refine ⟨v, fun w' hw' => ?_, ?_⟩
 ·unfold Oper.quietAt
  rw [hv w' hw' a ha]
  exact ⟨rfl, rfl⟩
 ·rw [hd]
  exact hK _ (h _ (ha.put (lt_of_blt hN) v))
theorem rk_gskip {j g d : Nat} {b b' : Bool} (hg : o.guard = some (j, b)) (hj : (ops[j]?).bind (·.dst) = some g) (hb : Fr.get F g = some (.bool b')) (hne : (b' == b) = false) (hd : o.dst = some d) (hN : Nat.blt d N = true)
  (h : RKl P f N ops C rest k ((d, undef) :: F) R) : RKl P f N ops C (o :: rest) k F R := by
 intro a ha
 refine wpQuiet_step fun K hK => ?_
 have hw : Region.wanted o (yielded ops a.tmps) = false := by
  simp only [Region.wanted, hg, yielded_of ha hj hb]
  simpa using hne
 rw [if_neg (by simp [hw]), hd]
 exact hK _ (h _ (ha.put (lt_of_blt hN) undef))
theorem holds_at {a : Act} (ha : Holds N F a) {g : Nat} {v : Value} (h : Fr.get F g = some v) : Holds N ((g, v) :: F) a := ha.weaken fun i u hu => by
 unfold Fr.get at hu
 by_cases e' : i = g
 ·subst e'; simp at hu; rw [← hu]; exact h
 ·have : Nat.beq i g = false := nbeq e'
  simpa [this] using hu
theorem rk_split (g : Nat) {b : Bool} {l : List Oper} (hb : Fr.get F g = some (.bool b)) (ht : b = true → RKl P f N ops C l k ((g, .bool true) :: F) R) (hf : b = false → RKl P f N ops C l k ((g, .bool false) :: F) R) : RKl P f N ops C l k F R := by
 intro a ha
 cases hb' : b
 ·exact hf hb' a (holds_at ha (by rw [hb, hb']))
 ·exact ht hb' a (holds_at ha (by rw [hb, hb']))
theorem rk_split_dec (g : Nat) {p : Prop} {dp : Decidable p} {l : List Oper} (hb : Fr.get F g = some (.bool (decide p))) (ht : p → RKl P f N ops C l k ((g, .bool true) :: F) R) (hf : ¬ p → RKl P f N ops C l k ((g, .bool false) :: F) R) : RKl P f N ops C l k F R :=
 rk_split g hb (fun h => ht (of_decide_eq_true h)) (fun h => hf (of_decide_eq_false h))
theorem rl_noD (g : Nat) {p : Prop} {dp : Decidable p} {l : List Oper} (hb : Fr.get F g = some (.bool (decide p))) (h : ¬ p) (hf : RL P f N ops l k ((g, .bool false) :: F) w R) : RL P f N ops l k F w R :=
 rl_split_dec g hb (fun e => absurd e h) (fun _ => hf)
theorem rl_yesD (g : Nat) {p : Prop} {dp : Decidable p} {l : List Oper} (hb : Fr.get F g = some (.bool (decide p))) (h : p) (hf : RL P f N ops l k ((g, .bool true) :: F) w R) : RL P f N ops l k F w R :=
 rl_split_dec g hb (fun _ => hf) (fun e => absurd h e)
theorem quiet_call {fo : Operand} {xs : Array Operand} {ats : Array TypeId} {g : FuncId} {cap : Array Value} {vs : List Value} {v : Value} {a : Act} (ha : Holds N F a) (hcl : Callable P g)
  (ho : o.op = .call { callee := .value fo, args := xs, argTypes := ats }) (hf : Fr.ev F fo = some (.func (.func g) #[] cap)) (hx : Fr.evs F xs.toList = some vs)
  (hC : ∀ w', C w' → Calls P g (vs.toArray ++ cap) w' (fun e w'' => e = .returned v ∧ C w'')) : ∀ w', C w' → o.quietAt P a C w' v := fun w' hw' => by
 have hargs : xs.map a.eval = vs.toArray := by
  apply Array.ext'
  simpa using ha.evs hx
 have hrun : (execOp a.eval o).run P w' = .ok (.enter g (vs.toArray ++ cap)) w' := by
  unfold execOp
  simp only [ho, resolve, Sem.run_bind, Deferred.ofValue, ha.ev hf, hargs]
  simp [invoke, Result.andThen, run_callFunc hcl]
 unfold Oper.quietAt
 rw [hrun]
 exact ⟨rfl, hC w' hw'⟩
theorem rk_gcall {fo : Operand} {xs : Array Operand} {ats : Array TypeId} {g j gs : Nat} {b : Bool} {cap : Array Value} {vs : List Value} {d : Nat} {v : Value} (hcl : Callable P g) (hg : o.guard = some (j, b)) (hj : (ops[j]?).bind (·.dst) = some gs) (hb : Fr.get F gs = some (.bool b)) (hd : o.dst = some d) (hN : Nat.blt d N = true)
  (ho : o.op = .call { callee := .value fo, args := xs, argTypes := ats }) (hf : Fr.ev F fo = some (.func (.func g) #[] cap)) (hx : Fr.evs F xs.toList = some vs)
  (hC : ∀ w', C w' → Calls P g (vs.toArray ++ cap) w' (fun e w'' => e = .returned v ∧ C w'')) (h : RKl P f N ops C rest k ((d, v) :: F) R) : RKl P f N ops C (o :: rest) k F R := by
 intro a ha
 refine wpQuiet_step fun K hK => ?_
 rw [if_pos (by simp [Region.wanted, hg, yielded_of ha hj hb])]
 refine ⟨v, quiet_call ha hcl ho hf hx hC, ?_⟩
 rw [hd]
 exact hK _ (h _ (ha.put (lt_of_blt hN) v))
end
end Go.Proofs.YtlldeifbfpmbaaaGreat
set_option maxRecDepth 100000
namespace Go.Proofs.YtlldeifbfpmbaaaGreat
open Go.RowKit Go.Proofs Go.MapKept
theorem sm_uni {p : Int → Prop} [∀ i, Decidable (p i)] {n : Int} (n0 : 0 ≤ n) (h : ∀ i j : Int, 0 ≤ i → i < n → 0 ≤ j → j < n → p i → p j → i = j) : sm (fun i => if p i then 1 else 0) n ≤ 1 := by
 by_cases c : ∃ i : Int, 0 ≤ i ∧ i < n ∧ p i
 ·obtain ⟨i, i0, i1, hi⟩ := c
  have e : sm (fun i => if p i then 1 else 0) n = sm (fun j => if i = j then 1 else 0) n := sm_congr fun j j0 j1 => by
   by_cases e : i = j
   ·rw [if_pos e, ← e, if_pos hi]
   ·rw [if_neg e, if_neg fun hj => e (h i j i0 i1 j0 j1 hi hj)]
  rw [e, sm_one i0 i1]
  omega
 ·rw [sm_congr (g := fun _ => 0) fun i i0 i1 => if_neg fun hi => c ⟨i, i0, i1, hi⟩, sm_const 0 n0]
  omega
theorem pigeon {e : Int → Int} {n m : Nat} (hr : ∀ k : Int, 0 ≤ k → k < n → 0 ≤ e k ∧ e k < m) (hd : ∀ a b : Int, 0 ≤ a → a < n → 0 ≤ b → b < n → e a = e b → a = b) : n ≤ m := by
 have h1 : sm (fun k => sm (fun b => if e k = b then 1 else 0) m) n = n := by
  rw [sm_congr (g := fun _ => 1) fun k k0 k1 => sm_one (hr k k0 k1).1 (hr k k0 k1).2 1, sm_const 1 (by omega)]
  omega
 rw [sm_swap] at h1
 have h2 : sm (fun b => sm (fun k => if e k = b then 1 else 0) n) m ≤ m * 1 := sm_bound 1 (by omega) fun b _ _ => sm_uni (by omega) fun i j i0 i1 j0 j1 h1 h2 => hd i j i0 i1 j0 j1 (h1.trans h2.symm)
 omega
end Go.Proofs.YtlldeifbfpmbaaaGreat
