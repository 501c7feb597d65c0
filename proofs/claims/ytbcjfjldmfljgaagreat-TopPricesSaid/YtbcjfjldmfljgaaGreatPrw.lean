import Derived.Test.YtbcjfjldmfljgaaGreatFbC
import Derived.Test.YtbcjfjldmfljgaaGreatRep
import Derived.Test.YtbcjfjldmfljgaaGreatHeld
import Derived.Deep.Quiet
import Derived.Test.YtbcjfjldmfljgaaGreatMaps
import Derived.Test.YtbcjfjldmfljgaaGreatRul
namespace Go.Proofs.YtbcjfjldmfljgaaGreat
open Go.RowKit
section
variable {P : Program} {f N : Nat} {k : List Item} {F : Fr} {w : World} {R : Ending → World → Prop} {ops : Array Oper} {o : Oper} {rest : List Oper} {C : World → Prop}
def RKl (P : Program) (f N : Nat) (ops : Array Oper) (C : World → Prop) (l : List Oper) (k : List Item) (F : Fr) (R : Ending → World → Prop) : Prop :=
 ∀ a, Holds N F a → wpQuiet P ops C (fun a' => ∀ w', C w' → RunA P f k a' w' R) l a
theorem run_class {id : Nat} {l : List Oper} (C : World → Prop) (h0 : C w.drew) (hm : P.follows .mixedOrders = true) (hB : Region.lexB .any l.toArray = true) (h : RKl P f N l.toArray C l k F R) : Run P f N (.code (.region id l.toArray true) :: k) F w R :=
 fun a ha => runA_of_wp (wp_region_quiet (C := C) hm hB h0 (by exact h a ha))
theorem rk_nil (h : ∀ w', C w' → Run P f N k F w' R) : RKl P f N ops C [] k F R := fun a ha => wpQuiet_nil fun w' hw' => h w' hw' a ha
theorem rk_v {d : Nat} {v : Value} (hg : o.guard = none) (hd : o.dst = some d) (hN : Nat.blt d N = true) (hv : ∀ w', C w' → OpV P N o F w' v) (h : RKl P f N ops C rest k ((d, v) :: F) R) : RKl P f N ops C (o :: rest) k F R := by
 intro a ha
 refine wpQuiet_step fun K hK => ?_
 rw [if_pos (by simp [Region.wanted, hg])]
 refine ⟨v, fun w' hw' => ?_, ?_⟩
 ·unfold Oper.quietAt
  rw [hv w' hw' a ha]
  exact ⟨rfl, rfl⟩
 ·rw [hd]
  exact hK _ (h _ (ha.put (lt_of_blt hN) v))
theorem rk_gv {j g d : Nat} {b : Bool} {v : Value} (hg : o.guard = some (j, b)) (hj : (ops[j]?).bind (·.dst) = some g) (hb : Fr.get F g = some (.bool b)) (hd : o.dst = some d) (hN : Nat.blt d N = true) (hv : ∀ w', C w' → OpV P N o F w' v)
  (h : RKl P f N ops C rest k ((d, v) :: F) R) : RKl P f N ops C (o :: rest) k F R := by
 intro a ha
 refine wpQuiet_step fun K hK => ?_
 rw [if_pos (by simp [Region.wanted, hg, yielded_of ha hj hb])]
 refine ⟨v, fun w' hw' => ?_, ?_⟩
 ·unfold Oper.quietAt
  rw [hv w' hw' a ha]
  exact ⟨rfl, rfl⟩
 ·rw [hd]
  exact hK _ (h _ (ha.put (lt_of_blt hN) v))
theorem rk_gskip {j g d : Nat} {b b' : Bool} (hg : o.guard = some (j, b)) (hj : (ops[j]?).bind (·.dst) = some g) (hb : Fr.get F g = some (.bool b')) (hne : (b' == b) = false) (hd : o.dst = some d) (hN : Nat.blt d N = true)
  (h : RKl P f N ops C rest k ((d, undef) :: F) R) : RKl P f N ops C (o :: rest) k F R := by
 intro a ha
 refine wpQuiet_step fun K hK => ?_
 have hw : Region.wanted o (yielded ops a.tmps) = false := by
  simp only [Region.wanted, hg, yielded_of ha hj hb]
  simpa using hne
 rw [if_neg (by simp [hw]), hd]
 exact hK _ (h _ (ha.put (lt_of_blt hN) undef))
theorem holds_at {a : Act} (ha : Holds N F a) {g : Nat} {v : Value} (h : Fr.get F g = some v) : Holds N ((g, v) :: F) a := ha.weaken fun i u hu => by
 unfold Fr.get at hu
 by_cases e' : i = g
 ·subst e'; simp at hu; rw [← hu]; exact h
 ·have : Nat.beq i g = false := nbeq e'
  simpa [this] using hu
theorem rk_split (g : Nat) {b : Bool} {l : List Oper} (hb : Fr.get F g = some (.bool b)) (ht : b = true → RKl P f N ops C l k ((g, .bool true) :: F) R) (hf : b = false → RKl P f N ops C l k ((g, .bool false) :: F) R) : RKl P f N ops C l k F R := by
 intro a ha
 cases hb' : b
 ·exact hf hb' a (holds_at ha (by rw [hb, hb']))
 ·exact ht hb' a (holds_at ha (by rw [hb, hb']))
theorem rk_split_dec (g : Nat) {p : Prop} {dp : Decidable p} {l : List Oper} (hb : Fr.get F g = some (.bool (decide p))) (ht : p → RKl P f N ops C l k ((g, .bool true) :: F) R) (hf : ¬ p → RKl P f N ops C l k ((g, .bool false) :: F) R) : RKl P f N ops C l k F R :=
 rk_split g hb (fun h => ht (of_decide_eq_true h)) (fun h => hf (of_decide_eq_false h))
theorem rl_no (g : Nat) {b : Bool} {l : List Oper} (hb : Fr.get F g = some (.bool b)) (h : b = false) (hf : RL P f N ops l k ((g, .bool false) :: F) w R) : RL P f N ops l k F w R :=
 rl_split g hb (fun e => by rw [h] at e; cases e) (fun _ => hf)
theorem rl_noD (g : Nat) {p : Prop} {dp : Decidable p} {l : List Oper} (hb : Fr.get F g = some (.bool (decide p))) (h : ¬ p) (hf : RL P f N ops l k ((g, .bool false) :: F) w R) : RL P f N ops l k F w R :=
 rl_split_dec g hb (fun e => absurd e h) (fun _ => hf)
theorem rl_yes (g : Nat) {b : Bool} {l : List Oper} (hb : Fr.get F g = some (.bool b)) (h : b = true) (hf : RL P f N ops l k ((g, .bool true) :: F) w R) : RL P f N ops l k F w R :=
 rl_split g hb (fun _ => hf) (fun e => by rw [h] at e; cases e)
theorem rl_yesD (g : Nat) {p : Prop} {dp : Decidable p} {l : List Oper} (hb : Fr.get F g = some (.bool (decide p))) (h : p) (hf : RL P f N ops l k ((g, .bool true) :: F) w R) : RL P f N ops l k F w R :=
 rl_split_dec g hb (fun _ => hf) (fun e => absurd h e)
theorem rc_gop {S : World → Prop} {fuel i j g : Nat} {b : Bool} {listed : Array Bool} {oi : Oper} {Post : Fr → World → Prop} (hi : ops[i]? = some oi) (hg : oi.guard = some (j, b)) (hj : (ops[j]?).bind (·.dst) = some g) (hb : Fr.get F g = some (.bool b)) (hw : OpW P N oi F w Post)
  (h : ∀ F' w', Post F' w' → S w' ∧ RH P f N ops S fuel (listed.setIfInBounds i true) k F' w' R) : RC P f N ops S fuel listed k i F w R := by
 intro a ha
 unfold wpOp
 rw [hi]
 simp only [Region.wanted, hg, yielded_of ha hj hb]
 rw [if_pos (by simp)]
 exact .inl (hw a ha _ _ fun F' a' w' hp ha' => ⟨(h F' w' hp).1, (h F' w' hp).2 a' ha'⟩)
theorem quiet_call {fo : Operand} {xs : Array Operand} {ats : Array TypeId} {g : FuncId} {cap : Array Value} {vs : List Value} {v : Value} {a : Act} (ha : Holds N F a) (hcl : Callable P g)
  (ho : o.op = .call { callee := .value fo, args := xs, argTypes := ats }) (hf : Fr.ev F fo = some (.func (.func g) #[] cap)) (hx : Fr.evs F xs.toList = some vs)
  (hC : ∀ w', C w' → Calls P g (vs.toArray ++ cap) w' (fun e w'' => e = .returned v ∧ C w'')) : ∀ w', C w' → o.quietAt P a C w' v := fun w' hw' => by
 have hargs : xs.map a.eval = vs.toArray := by
  apply Array.ext'
  simpa using ha.evs hx
 have hrun : (execOp a.eval o).run P w' = .ok (.enter g (vs.toArray ++ cap)) w' := by
  unfold execOp
  simp only [ho, resolve, Sem.run_bind, Deferred.ofValue, ha.ev hf, hargs]
  simp [invoke, Result.andThen, run_callFunc hcl]
 unfold Oper.quietAt
 rw [hrun]
 exact ⟨rfl, hC w' hw'⟩
theorem rk_call {fo : Operand} {xs : Array Operand} {ats : Array TypeId} {g : FuncId} {cap : Array Value} {vs : List Value} {d : Nat} {v : Value} (hcl : Callable P g) (hg : o.guard = none) (hd : o.dst = some d) (hN : Nat.blt d N = true)
  (ho : o.op = .call { callee := .value fo, args := xs, argTypes := ats }) (hf : Fr.ev F fo = some (.func (.func g) #[] cap)) (hx : Fr.evs F xs.toList = some vs)
  (hC : ∀ w', C w' → Calls P g (vs.toArray ++ cap) w' (fun e w'' => e = .returned v ∧ C w'')) (h : RKl P f N ops C rest k ((d, v) :: F) R) : RKl P f N ops C (o :: rest) k F R := by
 intro a ha
 refine wpQuiet_step fun K hK => ?_
 rw [if_pos (by simp [Region.wanted, hg])]
 refine ⟨v, quiet_call ha hcl ho hf hx hC, ?_⟩
 rw [hd]
 exact hK _ (h _ (ha.put (lt_of_blt hN) v))
theorem rk_gcall {fo : Operand} {xs : Array Operand} {ats : Array TypeId} {g j gs : Nat} {b : Bool} {cap : Array Value} {vs : List Value} {d : Nat} {v : Value} (hcl : Callable P g) (hg : o.guard = some (j, b)) (hj : (ops[j]?).bind (·.dst) = some gs) (hb : Fr.get F gs = some (.bool b)) (hd : o.dst = some d) (hN : Nat.blt d N = true)
  (ho : o.op = .call { callee := .value fo, args := xs, argTypes := ats }) (hf : Fr.ev F fo = some (.func (.func g) #[] cap)) (hx : Fr.evs F xs.toList = some vs)
  (hC : ∀ w', C w' → Calls P g (vs.toArray ++ cap) w' (fun e w'' => e = .returned v ∧ C w'')) (h : RKl P f N ops C rest k ((d, v) :: F) R) : RKl P f N ops C (o :: rest) k F R := by
 intro a ha
 refine wpQuiet_step fun K hK => ?_
 rw [if_pos (by simp [Region.wanted, hg, yielded_of ha hj hb])]
 refine ⟨v, quiet_call ha hcl ho hf hx hC, ?_⟩
 rw [hd]
 exact hK _ (h _ (ha.put (lt_of_blt hN) v))
end
section
variable {P : Program} {f N : Nat} {ops : Array Oper} {k : List Item} {F : Fr} {w : World} {R : Ending → World → Prop} {S : World → Prop} {fuel : Nat} {listed : Array Bool}
theorem rh_yes (g : Nat) {b : Bool} (hb : Fr.get F g = some (.bool b)) (h : b = true) (hf : RH P f N ops S fuel listed k ((g, .bool true) :: F) w R) : RH P f N ops S fuel listed k F w R :=
 fun a ha => hf a (holds_at ha (by rw [hb, h]))
theorem rh_yesD (g : Nat) {p : Prop} {dp : Decidable p} (hb : Fr.get F g = some (.bool (decide p))) (h : p) (hf : RH P f N ops S fuel listed k ((g, .bool true) :: F) w R) : RH P f N ops S fuel listed k F w R :=
 rh_yes g hb (decide_eq_true h) hf
theorem rh_no (g : Nat) {b : Bool} (hb : Fr.get F g = some (.bool b)) (h : b = false) (hf : RH P f N ops S fuel listed k ((g, .bool false) :: F) w R) : RH P f N ops S fuel listed k F w R :=
 fun a ha => hf a (holds_at ha (by rw [hb, h]))
theorem rh_noD (g : Nat) {p : Prop} {dp : Decidable p} (hb : Fr.get F g = some (.bool (decide p))) (h : ¬ p) (hf : RH P f N ops S fuel listed k ((g, .bool false) :: F) w R) : RH P f N ops S fuel listed k F w R :=
 rh_no g hb (decide_eq_false h) hf
end
end Go.Proofs.YtbcjfjldmfljgaaGreat
set_option maxRecDepth 100000
namespace Go.Proofs.YtbcjfjldmfljgaaGreat
open Go.RowKit Go.Proofs Go.MapKept
structure Cl5 (B : Nat) (w0 : World) (H : List (Option Blk)) (w : World) : Prop where
 own : Own B w0 w H
end Go.Proofs.YtbcjfjldmfljgaaGreat
set_option maxRecDepth 100000
namespace Go.Proofs.YtbcjfjldmfljgaaGreat
open Go.RowKit Go.Proofs
theorem perm_front {H : List (Option Blk)} {k : Nat} {x : Option Blk} (hk : H[k]? = some x) : H.Perm (x :: H.eraseIdx k) := by
 induction H generalizing k with
 | nil => simp at hk
 | cons a H ih =>
  cases k with
  | zero => simp at hk; subst hk; exact List.Perm.refl _
  | succ k =>
   simp only [List.getElem?_cons_succ] at hk
   exact ((ih hk).cons a).trans (List.Perm.swap _ _ _)
theorem SRow.addr {ao : Option Addr} {m cap : Nat} {E : TypeId} {s n : Nat} {G : Int → List Value} {c : Option Blk} (h : SRow (.slice ao m cap) E s n G c) : ∃ b, (0 < n → ao = some ⟨b, 0, none⟩) := by
 rcases h with ⟨_, rfl, _⟩ | ⟨b, cap', g, h1, _⟩
 ·exact ⟨0, fun h => absurd h (Nat.lt_irrefl _)⟩
 ·cases h1; exact ⟨b, fun _ => rfl⟩
theorem IRow.addr {ao : Option Addr} {m cap : Nat} {E : TypeId} {n : Nat} {G : Int → Value} {c : Option Blk} (h : IRow (.slice ao m cap) E n G c) : ∃ b, (0 < n → ao = some ⟨b, 0, none⟩) := by
 rcases h with ⟨_, rfl, _⟩ | ⟨b, cap', g, h1, _⟩
 ·exact ⟨0, fun h => absurd h (Nat.lt_irrefl _)⟩
 ·cases h1; exact ⟨b, fun _ => rfl⟩
theorem ow_storeI1 {N : Nat} {o : Oper} {F : Fr} {w w0 : World} {B : Nat} {H : List (Option Blk)} {T E : TypeId} {p x : Operand} {b n cap : Nat} {G : Int → Value} {c : Option Blk} {ao : Option Addr} {i : Int} {v : Value} (hd : o.dst = none) (ho : o.op = .store T p x) (hi : (Tryz.prog.info? T).map (·.size) = some 1)
  (hO : Own B w0 w H) (kk : Nat) (hr : IRow (.slice ao n cap) E n G c) (hk : H[kk]? = some c) (hao : 0 < n → ao = some ⟨b, 0, none⟩) (hp : Fr.ev F p = some (.pointer (some ⟨b, 0 + i.toNat, none⟩))) (hb : 0 ≤ i ∧ i < n)
  (hx : Fr.ev F x = some v) (h1 : v.oneCell' = true) :
  OpW Tryz.prog N o F w (fun F' w' => ∃ c', F' = F ∧ Own B w0 w' (H.set kk c') ∧ IRow (.slice ao n cap) E n (upd G i v) c' ∧ w'.heap.size = w.heap.size) := by
 obtain ⟨b', G', e1, e2, e3, rfl, e5⟩ := hr.asV (by omega)
 have := (hao (by omega)).symm.trans e1
 simp only [Option.some.injEq, Addr.mk.injEq] at this
 obtain rfl := this.1
 refine (ow_store hd ho hi hO kk hk hp ⟨hb.1, by omega⟩ hx h1).mono fun F' w' ⟨q1, q2, q3⟩ => ⟨_, q1, q2, ?_, q3⟩
 rw [e1]
 refine IRow.ofV e2 e3 fun j j0 j1 => ?_
 by_cases e : j = i
 ·subst e; simp
 ·rw [upd_ne _ _ e, upd_ne _ _ e]; exact e5 j j0 j1
end Go.Proofs.YtbcjfjldmfljgaaGreat
