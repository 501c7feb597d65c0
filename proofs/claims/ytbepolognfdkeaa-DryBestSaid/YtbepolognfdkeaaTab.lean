import Derived.Test.YtbepolognfdkeaaGow
import Derived.Deep.Quiet
import Derived.Test.YtbepolognfdkeaaEff
namespace Go.Proofs.Ytbepolognfdkeaa
open Go.RowKit
section
variable {P : Program} {f N : Nat} {k : List Item} {F : Fr} {w : World} {R : Ending → World → Prop} {ops : Array Oper} {o : Oper} {rest : List Oper} {C : World → Prop}
def RKl (P : Program) (f N : Nat) (ops : Array Oper) (C : World → Prop) (l : List Oper) (k : List Item) (F : Fr) (R : Ending → World → Prop) : Prop :=
 ∀ a, Holds N F a → wpQuiet P ops C (fun a' => ∀ w', C w' → RunA P f k a' w' R) l a
theorem run_class {id : Nat} {l : List Oper} (C : World → Prop) (h0 : C w.drew) (hm : P.follows .mixedOrders = true) (hB : Region.lexB .any l.toArray = true) (h : RKl P f N l.toArray C l k F R) : Run P f N (.code (.region id l.toArray true) :: k) F w R :=
 fun a ha => runA_of_wp (wp_region_quiet (C := C) hm hB h0 (by exact h a ha))
theorem rk_nil (h : ∀ w', C w' → Run P f N k F w' R) : RKl P f N ops C [] k F R := fun a ha => wpQuiet_nil fun w' hw' => h w' hw' a ha
theorem rk_v {d : Nat} {v : Value} (hg : o.guard = none) (hd : o.dst = some d) (hN : Nat.blt d N = true) (hv : ∀ w', C w' → OpV P N o F w' v) (h : RKl P f N ops C rest k ((d, v) :: F) R) : RKl P f N ops C (o :: rest) k F R := by
 intro a ha
 refine wpQuiet_step fun K hK => ?_
 rw [if_pos (by simp [Region.wanted, hg])]
 refine ⟨v, fun w' hw' => ?_, ?_⟩
 ·unfold Oper.quietAt
  rw [hv w' hw' a ha]
  exact ⟨rfl, rfl⟩
 ·rw [hd]
  exact hK _ (h _ (ha.put (lt_of_blt hN) v))
theorem rk_gv {j g d : Nat} {b : Bool} {v : Value} (hg : o.guard = some (j, b)) (hj : (ops[j]?).bind (·.dst) = some g) (hb : Fr.get F g = some (.bool b)) (hd : o.dst = some d) (hN : Nat.blt d N = true) (hv : ∀ w', C w' → OpV P N o F w' v)
  (h : RKl P f N ops C rest k ((d, v) :: F) R) : RKl P f N ops C (o :: rest) k F R := by
 intro a ha
 refine wpQuiet_step fun K hK => ?_
 rw [if_pos (by simp [Region.wanted, hg, yielded_of ha hj hb])]
 refine ⟨v, fun w' hw' => ?_, ?_⟩
 ·unfold Oper.quietAt
  rw [hv w' hw' a ha]
  exact ⟨rfl, rfl⟩
 ·rw [hd]
  exact hK _ (h _ (ha.put (lt_of_blt hN) v))
theorem rk_gskip {j g d : Nat} {b b' : Bool} (hg : o.guard = some (j, b)) (hj : (ops[j]?).bind (·.dst) = some g) (hb : Fr.get F g = some (.bool b')) (hne : (b' == b) = false) (hd : o.dst = some d) (hN : Nat.blt d N = true)
  (h : RKl P f N ops C rest k ((d, undef) :: F) R) : RKl P f N ops C (o :: rest) k F R := by
 intro a ha
 refine wpQuiet_step fun K hK => ?_
 have hw : Region.wanted o (yielded ops a.tmps) = false := by
  simp only [Region.wanted, hg, yielded_of ha hj hb]
  simpa using hne
 rw [if_neg (by simp [hw]), hd]
 exact hK _ (h _ (ha.put (lt_of_blt hN) undef))
theorem holds_at {a : Act} (ha : Holds N F a) {g : Nat} {v : Value} (h : Fr.get F g = some v) : Holds N ((g, v) :: F) a := ha.weaken fun i u hu => by
 unfold Fr.get at hu
 by_cases e' : i = g
 ·subst e'; simp at hu; rw [← hu]; exact h
 ·have : Nat.beq i g = false := nbeq e'
  simpa [this] using hu
theorem rk_split (g : Nat) {b : Bool} {l : List Oper} (hb : Fr.get F g = some (.bool b)) (ht : b = true → RKl P f N ops C l k ((g, .bool true) :: F) R) (hf : b = false → RKl P f N ops C l k ((g, .bool false) :: F) R) : RKl P f N ops C l k F R := by
 intro a ha
 cases hb' : b
 ·exact hf hb' a (holds_at ha (by rw [hb, hb']))
 ·exact ht hb' a (holds_at ha (by rw [hb, hb']))
theorem rk_split_dec (g : Nat) {p : Prop} {dp : Decidable p} {l : List Oper} (hb : Fr.get F g = some (.bool (decide p))) (ht : p → RKl P f N ops C l k ((g, .bool true) :: F) R) (hf : ¬ p → RKl P f N ops C l k ((g, .bool false) :: F) R) : RKl P f N ops C l k F R :=
 rk_split g hb (fun h => ht (of_decide_eq_true h)) (fun h => hf (of_decide_eq_false h))
theorem rl_no (g : Nat) {b : Bool} {l : List Oper} (hb : Fr.get F g = some (.bool b)) (h : b = false) (hf : RL P f N ops l k ((g, .bool false) :: F) w R) : RL P f N ops l k F w R :=
 rl_split g hb (fun e => by rw [h] at e; cases e) (fun _ => hf)
theorem rl_noD (g : Nat) {p : Prop} {dp : Decidable p} {l : List Oper} (hb : Fr.get F g = some (.bool (decide p))) (h : ¬ p) (hf : RL P f N ops l k ((g, .bool false) :: F) w R) : RL P f N ops l k F w R :=
 rl_split_dec g hb (fun e => absurd e h) (fun _ => hf)
theorem rl_yesD (g : Nat) {p : Prop} {dp : Decidable p} {l : List Oper} (hb : Fr.get F g = some (.bool (decide p))) (h : p) (hf : RL P f N ops l k ((g, .bool true) :: F) w R) : RL P f N ops l k F w R :=
 rl_split_dec g hb (fun _ => hf) (fun e => absurd h e)
theorem quiet_call {fo : Operand} {xs : Array Operand} {ats : Array TypeId} {g : FuncId} {cap : Array Value} {vs : List Value} {v : Value} {a : Act} (ha : Holds N F a) (hcl : Callable P g)
  (ho : o.op = .call { callee := .value fo, args := xs, argTypes := ats }) (hf : Fr.ev F fo = some (.func (.func g) #[] cap)) (hx : Fr.evs F xs.toList = some vs)
  (hC : ∀ w', C w' → Calls P g (vs.toArray ++ cap) w' (fun e w'' => e = .returned v ∧ C w'')) : ∀ w', C w' → o.quietAt P a C w' v := fun w' hw' => by
 have hargs : xs.map a.eval = vs.toArray := by
  apply Array.ext'
  simpa using ha.evs hx
 have hrun : (execOp a.eval o).run P w' = .ok (.enter g (vs.toArray ++ cap)) w' := by
  unfold execOp
  simp only [ho, resolve, Sem.run_bind, Deferred.ofValue, ha.ev hf, hargs]
  simp [invoke, Result.andThen, run_callFunc hcl]
 unfold Oper.quietAt
 rw [hrun]
 exact ⟨rfl, hC w' hw'⟩
theorem rk_gcall {fo : Operand} {xs : Array Operand} {ats : Array TypeId} {g j gs : Nat} {b : Bool} {cap : Array Value} {vs : List Value} {d : Nat} {v : Value} (hcl : Callable P g) (hg : o.guard = some (j, b)) (hj : (ops[j]?).bind (·.dst) = some gs) (hb : Fr.get F gs = some (.bool b)) (hd : o.dst = some d) (hN : Nat.blt d N = true)
  (ho : o.op = .call { callee := .value fo, args := xs, argTypes := ats }) (hf : Fr.ev F fo = some (.func (.func g) #[] cap)) (hx : Fr.evs F xs.toList = some vs)
  (hC : ∀ w', C w' → Calls P g (vs.toArray ++ cap) w' (fun e w'' => e = .returned v ∧ C w'')) (h : RKl P f N ops C rest k ((d, v) :: F) R) : RKl P f N ops C (o :: rest) k F R := by
 intro a ha
 refine wpQuiet_step fun K hK => ?_
 rw [if_pos (by simp [Region.wanted, hg, yielded_of ha hj hb])]
 refine ⟨v, quiet_call ha hcl ho hf hx hC, ?_⟩
 rw [hd]
 exact hK _ (h _ (ha.put (lt_of_blt hN) v))
end
section
variable {P : Program} {f N : Nat} {ops : Array Oper} {k : List Item} {F : Fr} {w : World} {R : Ending → World → Prop} {S : World → Prop} {fuel : Nat} {listed : Array Bool}
end
end Go.Proofs.Ytbepolognfdkeaa
namespace Go.Proofs.Ytbepolognfdkeaa
open Go.RowKit
theorem IAt.mono {B B' : Nat} {w : World} {ao : Option Addr} {n : Nat} {G : Int → Value} (h : IAt B w ao n G) (hB : B ≤ B') : IAt B' w ao n G := RAt.mono h hB
theorem IAt.below {B : Nat} {w w' : World} {ao : Option Addr} {n : Nat} {G : Int → Value} (h : IAt B w ao n G) (hb : Below B w w') : IAt B w' ao n G := RAt.below h hb
theorem IAt.congr {B : Nat} {w : World} {ao : Option Addr} {n : Nat} {G G' : Int → Value} (h : IAt B w ao n G) (e : ∀ i : Int, 0 ≤ i → i < n → G i = G' i) : IAt B w ao n G' := RAt.congr h fun i hi => e i (by omega) (by omega)
def ITab (B : Nat) (w : World) (ao : Option Addr) (n : Nat) (L : Int → Nat) (F : Int → Int → Value) : Prop :=
 ∃ (A : Int → Option Addr) (C : Int → Nat), IAt B w ao n (fun r => .slice (A r) (L r) (C r)) ∧ ∀ r : Int, 0 ≤ r → r < n → IAt B w (A r) (L r) (F r)
theorem ITab.below {B : Nat} {w w' : World} {ao : Option Addr} {n : Nat} {L : Int → Nat} {F : Int → Int → Value} (h : ITab B w ao n L F) (hb : Below B w w') : ITab B w' ao n L F := by
 obtain ⟨A, C, h1, h2⟩ := h
 exact ⟨A, C, h1.below hb, fun r h0 hr => (h2 r h0 hr).below hb⟩
theorem ITab.mono {B B' : Nat} {w : World} {ao : Option Addr} {n : Nat} {L : Int → Nat} {F : Int → Int → Value} (h : ITab B w ao n L F) (hB : B ≤ B') : ITab B' w ao n L F := by
 obtain ⟨A, C, h1, h2⟩ := h
 exact ⟨A, C, h1.mono hB, fun r h0 hr => (h2 r h0 hr).mono hB⟩
theorem ITab.later {w w' : World} {ao : Option Addr} {n : Nat} {L : Int → Nat} {F : Int → Int → Value} (h : ITab w.heap.size w ao n L F) (hb : Below w.heap.size w w') : ITab w'.heap.size w' ao n L F := (h.below hb).mono hb.size
theorem ITab.open {B : Nat} {w : World} {ao : Option Addr} {n : Nat} {L : Int → Nat} {F : Int → Int → Value} (h : ITab B w ao n L F) :
  ∃ (A : Int → Option Addr) (C RB RO : Int → Nat) (gb go : Nat), (0 < n → ao = some ⟨gb, go, none⟩) ∧ (∀ w', Below B w w' → ∀ r : Int, 0 ≤ r → r < n → w'.cell? ⟨gb, go + r.toNat, none⟩ = some (.slice (A r) (L r) (C r))) ∧
   (∀ r : Int, 0 ≤ r → r < n → 0 < L r → A r = some ⟨RB r, RO r, none⟩) ∧ (∀ w', Below B w w' → ∀ r : Int, 0 ≤ r → r < n → ∀ j : Int, 0 ≤ j → j < L r → w'.cell? ⟨RB r, RO r + j.toNat, none⟩ = some (F r j)) ∧
   ∀ r : Int, 0 ≤ r → r < n → IAt B w (A r) (L r) (F r) := by
 obtain ⟨A, C, h1, h2⟩ := h
 obtain ⟨gb, go, hga, hrow⟩ := h1.open
 have hx : ∀ r : Int, ∃ p : Nat × Nat, 0 ≤ r → r < n → (0 < L r → A r = some ⟨p.1, p.2, none⟩) ∧ ∀ w', Below B w w' → ∀ j : Int, 0 ≤ j → j < L r → w'.cell? ⟨p.1, p.2 + j.toNat, none⟩ = some (F r j) := by
  intro r
  by_cases hr : 0 ≤ r ∧ r < n
  ·obtain ⟨b, o, e1, e2⟩ := (h2 r hr.1 hr.2).open
   exact ⟨(b, o), fun _ _ => ⟨e1, e2⟩⟩
  ·exact ⟨(0, 0), fun a b => absurd ⟨a, b⟩ hr⟩
 exact ⟨A, C, fun r => (Classical.choose (hx r)).1, fun r => (Classical.choose (hx r)).2, gb, go, hga, hrow, fun r h0 hr => (Classical.choose_spec (hx r) h0 hr).1,
  fun w' hb r h0 hr => (Classical.choose_spec (hx r) h0 hr).2 w' hb, h2⟩
def OTab (v : Value) (T1 T2 : TypeId) (n : Nat) (L : Int → Nat) (F : Int → Int → Value) (H : List (Option Blk)) : Prop :=
 ∃ (c : Option Blk) (rv : Int → Value) (ch : Nat → Option Blk), H = c :: (List.range n).map ch ∧ IRow v T1 n rv c ∧ ∀ r : Nat, r < n → IRow (rv r) T2 (L r) (F r) (ch r)
end Go.Proofs.Ytbepolognfdkeaa
