import Derived.Test.YtfbbagnpdfafjaaOps
import Derived.Test.YtfbbagnpdfafjaaTab
import Derived.Deep.Quiet
import Derived.Test.YtfbbagnpdfafjaaBitB
namespace Go.Proofs.Ytfbbagnpdfafjaa
def sumTo (f : Int → Int) : Nat → Int
 | 0 => 0
 | n + 1 => sumTo f n + f n
def sm (f : Int → Int) (k : Int) : Int := sumTo f k.toNat
theorem sm_zero (f : Int → Int) : sm f 0 = 0 := rfl
theorem sm_neg (f : Int → Int) {k : Int} (h : k ≤ 0) : sm f k = 0 := by
 unfold sm; rw [show k.toNat = 0 by omega]; rfl
theorem sm_succ (f : Int → Int) {k : Int} (h : 0 ≤ k) : sm f (k + 1) = sm f k + f k := by
 unfold sm
 rw [show (k + 1).toNat = k.toNat + 1 by omega]
 simp only [sumTo, Int.toNat_of_nonneg h]
theorem sm_ind {f : Int → Int} {p : Int → Int → Prop} (h0 : p 0 0) (hs : ∀ k : Int, 0 ≤ k → ∀ s, p k s → p (k + 1) (s + f k)) {k : Int} (hk : 0 ≤ k) : p k (sm f k) := by
 obtain ⟨n, rfl⟩ := Int.eq_ofNat_of_zero_le hk
 induction n with
 | zero => exact h0
 | succ n ih =>
  have e : ((n + 1 : Nat) : Int) = (n : Int) + 1 := by omega
  rw [e, sm_succ f (by omega)]
  exact hs n (by omega) _ (ih (by omega))
theorem sm_congr {f g : Int → Int} {k : Int} (h : ∀ i : Int, 0 ≤ i → i < k → f i = g i) : sm f k = sm g k := by
 unfold sm
 have key : ∀ n : Nat, (n : Int) ≤ k → sumTo f n = sumTo g n := by
  intro n
  induction n with
  | zero => intro _; rfl
  | succ n ih => intro hn; simp only [sumTo]; rw [ih (by omega), h n (by omega) (by omega)]
 by_cases hk : 0 ≤ k
 ·exact key _ (by omega)
 ·rw [show k.toNat = 0 by omega]; rfl
theorem sm_le {f g : Int → Int} {k : Int} (h : ∀ i : Int, 0 ≤ i → i < k → f i ≤ g i) : sm f k ≤ sm g k := by
 unfold sm
 have key : ∀ n : Nat, (n : Int) ≤ k → sumTo f n ≤ sumTo g n := by
  intro n
  induction n with
  | zero => intro _; exact Int.le_refl _
  | succ n ih => intro hn; simp only [sumTo]; have := ih (by omega); have := h n (by omega) (by omega); omega
 by_cases hk : 0 ≤ k
 ·exact key _ (by omega)
 ·rw [show k.toNat = 0 by omega]; exact Int.le_refl _
theorem sm_const (c : Int) {k : Int} (hk : 0 ≤ k) : sm (fun _ => c) k = k * c := by
 obtain ⟨n, rfl⟩ := Int.eq_ofNat_of_zero_le hk
 induction n with
 | zero => simp [sm, sumTo]
 | succ n ih =>
  have e : ((n + 1 : Nat) : Int) = (n : Int) + 1 := by omega
  rw [e, sm_succ _ (by omega), ih (by omega), Int.add_mul, Int.one_mul]
theorem sm_bound {f : Int → Int} {k : Int} (M : Int) (hk : 0 ≤ k) (h : ∀ i : Int, 0 ≤ i → i < k → f i ≤ M) : sm f k ≤ k * M := by
 rw [← sm_const M hk]; exact sm_le h
theorem sm_bound' {f : Int → Int} {k : Int} (M : Int) (hk : 0 ≤ k) (h : ∀ i : Int, 0 ≤ i → i < k → M ≤ f i) : k * M ≤ sm f k := by
 rw [← sm_const M hk]; exact sm_le h
theorem sm_nonneg {f : Int → Int} {k : Int} (h : ∀ i : Int, 0 ≤ i → i < k → 0 ≤ f i) : 0 ≤ sm f k := by
 by_cases hk : 0 ≤ k
 ·have := sm_bound' 0 hk h; simpa using this
 ·rw [sm_neg f (by omega)]; exact Int.le_refl _
theorem sm_add (f g : Int → Int) (k : Int) : sm (fun i => f i + g i) k = sm f k + sm g k := by
 unfold sm
 induction k.toNat with
 | zero => rfl
 | succ n ih => simp only [sumTo]; omega
theorem sm_sub (f g : Int → Int) (k : Int) : sm (fun i => f i - g i) k = sm f k - sm g k := by
 unfold sm
 induction k.toNat with
 | zero => rfl
 | succ n ih => simp only [sumTo]; omega
theorem sm_mul (c : Int) (f : Int → Int) (k : Int) : sm (fun i => c * f i) k = c * sm f k := by
 unfold sm
 induction k.toNat with
 | zero => simp [sumTo]
 | succ n ih => simp only [sumTo]; rw [ih, Int.mul_add]
theorem sm_swap (f : Int → Int → Int) (n m : Int) : sm (fun i => sm (fun j => f i j) m) n = sm (fun j => sm (fun i => f i j) n) m := by
 unfold sm
 induction n.toNat with
 | zero =>
  simp only [sumTo]
  induction m.toNat with
  | zero => rfl
  | succ m ih => simp only [sumTo]; omega
 | succ n ih =>
  simp only [sumTo]
  rw [ih]
  induction m.toNat with
  | zero => rfl
  | succ m ih2 =>
   simp only [sumTo]
   omega
theorem sm_upd (f : Int → Int) (i x : Int) {k : Int} (h0 : 0 ≤ i) (hi : i < k) : sm (upd f i x) k = sm f k - f i + x := by
 obtain ⟨n, rfl⟩ := Int.eq_ofNat_of_zero_le (show 0 ≤ k by omega)
 induction n with
 | zero => omega
 | succ n ih =>
  have e : ((n + 1 : Nat) : Int) = (n : Int) + 1 := by omega
  rw [e, sm_succ _ (by omega), sm_succ _ (by omega)]
  by_cases hin : i < n
  ·rw [ih hin, upd_ne _ _ (by omega)]; omega
  ·have : i = n := by omega
   subst this
   rw [upd_same, sm_congr (g := f) (fun j _ hj => upd_ne _ _ (by omega))]; omega
theorem sm_pos {f : Int → Int} {k : Int} (h : ∀ i : Int, 0 ≤ i → i < k → 0 ≤ f i) (i : Int) (h0 : 0 ≤ i) (hi : i < k) : f i ≤ sm f k := by
 have e := sm_upd f i 0 h0 hi
 have : 0 ≤ sm (upd f i 0) k := sm_nonneg fun j a b => by
  unfold upd; split
  ·exact Int.le_refl _
  ·exact h j a b
 omega
end Go.Proofs.Ytfbbagnpdfafjaa
namespace Go.Proofs.Ytfbbagnpdfafjaa
open Go.RowKit
section
variable {P : Program} {f N : Nat} {k : List Item} {F : Fr} {w : World} {R : Ending → World → Prop} {ops : Array Oper} {o : Oper} {rest : List Oper} {C : World → Prop}
def RKl (P : Program) (f N : Nat) (ops : Array Oper) (C : World → Prop) (l : List Oper) (k : List Item) (F : Fr) (R : Ending → World → Prop) : Prop :=
 ∀ a, Holds N F a → wpQuiet P ops C (fun a' => ∀ w', C w' → RunA P f k a' w' R) l a
theorem run_class {id : Nat} {l : List Oper} (C : World → Prop) (h0 : C w.drew) (hm : P.follows .mixedOrders = true) (hB : Region.lexB .any l.toArray = true) (h : RKl P f N l.toArray C l k F R) : Run P f N (.code (.region id l.toArray true) :: k) F w R :=
 fun a ha => runA_of_wp (wp_region_quiet (C := C) hm hB h0 (by exact h a ha))
theorem rk_nil (h : ∀ w', C w' → Run P f N k F w' R) : RKl P f N ops C [] k F R := fun a ha => wpQuiet_nil fun w' hw' => h w' hw' a ha
theorem rk_v {d : Nat} {v : Value} (hg : o.guard = none) (hd : o.dst = some d) (hN : Nat.blt d N = true) (hv : ∀ w', C w' → OpV P N o F w' v) (h : RKl P f N ops C rest k ((d, v) :: F) R) : RKl P f N ops C (o :: rest) k F R := by
 intro a ha
 refine wpQuiet_step fun K hK => ?_
 rw [if_pos (by simp [Region.wanted, hg])]
 refine ⟨v, fun w' hw' => ?_, ?_⟩
 ·unfold Oper.quietAt
  rw [hv w' hw' a ha]
  exact ⟨rfl, rfl⟩
 ·rw [hd]
  exact hK _ (h _ (ha.put (lt_of_blt hN) v))
theorem rk_gv {j g d : Nat} {b : Bool} {v : Value} (hg : o.guard = some (j, b)) (hj : (ops[j]?).bind (·.dst) = some g) (hb : Fr.get F g = some (.bool b)) (hd : o.dst = some d) (hN : Nat.blt d N = true) (hv : ∀ w', C w' → OpV P N o F w' v)
  (h : RKl P f N ops C rest k ((d, v) :: F) R) : RKl P f N ops C (o :: rest) k F R := by
 intro a ha
 refine wpQuiet_step fun K hK => ?_
 rw [if_pos (by simp [Region.wanted, hg, yielded_of ha hj hb])]
 refine ⟨v, fun w' hw' => ?_, ?_⟩
 ·unfold Oper.quietAt
  rw [hv w' hw' a ha]
  exact ⟨rfl, rfl⟩
 ·rw [hd]
  exact hK _ (h _ (ha.put (lt_of_blt hN) v))
theorem rk_gskip {j g d : Nat} {b b' : Bool} (hg : o.guard = some (j, b)) (hj : (ops[j]?).bind (·.dst) = some g) (hb : Fr.get F g = some (.bool b')) (hne : (b' == b) = false) (hd : o.dst = some d) (hN : Nat.blt d N = true)
  (h : RKl P f N ops C rest k ((d, undef) :: F) R) : RKl P f N ops C (o :: rest) k F R := by
 intro a ha
 refine wpQuiet_step fun K hK => ?_
 have hw : Region.wanted o (yielded ops a.tmps) = false := by
  simp only [Region.wanted, hg, yielded_of ha hj hb]
  simpa using hne
 rw [if_neg (by simp [hw]), hd]
 exact hK _ (h _ (ha.put (lt_of_blt hN) undef))
theorem rk_gundef {j g d : Nat} {b : Bool} (hg : o.guard = some (j, b)) (hj : (ops[j]?).bind (·.dst) = some g) (hb : Fr.get F g = some undef) (hd : o.dst = some d) (hN : Nat.blt d N = true)
  (h : RKl P f N ops C rest k ((d, undef) :: F) R) : RKl P f N ops C (o :: rest) k F R := by
 intro a ha
 refine wpQuiet_step fun K hK => ?_
 have hw : Region.wanted o (yielded ops a.tmps) = false := by
  have e : yielded ops a.tmps j = none := by
   simp [yielded, hj, ha.at_ g _ hb]
   rfl
  simp [Region.wanted, hg, e]
 rw [if_neg (by simp [hw]), hd]
 exact hK _ (h _ (ha.put (lt_of_blt hN) undef))
theorem holds_at {a : Act} (ha : Holds N F a) {g : Nat} {v : Value} (h : Fr.get F g = some v) : Holds N ((g, v) :: F) a := ha.weaken fun i u hu => by
 unfold Fr.get at hu
 by_cases e' : i = g
 ·subst e'; simp at hu; rw [← hu]; exact h
 ·have : Nat.beq i g = false := nbeq e'
  simpa [this] using hu
theorem rk_split (g : Nat) {b : Bool} {l : List Oper} (hb : Fr.get F g = some (.bool b)) (ht : b = true → RKl P f N ops C l k ((g, .bool true) :: F) R) (hf : b = false → RKl P f N ops C l k ((g, .bool false) :: F) R) : RKl P f N ops C l k F R := by
 intro a ha
 cases hb' : b
 ·exact hf hb' a (holds_at ha (by rw [hb, hb']))
 ·exact ht hb' a (holds_at ha (by rw [hb, hb']))
theorem rk_split_dec (g : Nat) {p : Prop} {dp : Decidable p} {l : List Oper} (hb : Fr.get F g = some (.bool (decide p))) (ht : p → RKl P f N ops C l k ((g, .bool true) :: F) R) (hf : ¬ p → RKl P f N ops C l k ((g, .bool false) :: F) R) : RKl P f N ops C l k F R :=
 rk_split g hb (fun h => ht (of_decide_eq_true h)) (fun h => hf (of_decide_eq_false h))
theorem rk_noD (g : Nat) {p : Prop} {dp : Decidable p} {l : List Oper} (hb : Fr.get F g = some (.bool (decide p))) (h : ¬ p) (hf : RKl P f N ops C l k ((g, .bool false) :: F) R) : RKl P f N ops C l k F R :=
 rk_split_dec g hb (fun e => absurd e h) (fun _ => hf)
theorem rl_noD (g : Nat) {p : Prop} {dp : Decidable p} {l : List Oper} (hb : Fr.get F g = some (.bool (decide p))) (h : ¬ p) (hf : RL P f N ops l k ((g, .bool false) :: F) w R) : RL P f N ops l k F w R :=
 rl_split_dec g hb (fun e => absurd e h) (fun _ => hf)
theorem rl_yesD (g : Nat) {p : Prop} {dp : Decidable p} {l : List Oper} (hb : Fr.get F g = some (.bool (decide p))) (h : p) (hf : RL P f N ops l k ((g, .bool true) :: F) w R) : RL P f N ops l k F w R :=
 rl_split_dec g hb (fun _ => hf) (fun e => absurd h e)
theorem quiet_call {fo : Operand} {xs : Array Operand} {ats : Array TypeId} {g : FuncId} {cap : Array Value} {vs : List Value} {v : Value} {a : Act} (ha : Holds N F a) (hcl : Callable P g)
  (ho : o.op = .call { callee := .value fo, args := xs, argTypes := ats }) (hf : Fr.ev F fo = some (.func (.func g) #[] cap)) (hx : Fr.evs F xs.toList = some vs)
  (hC : ∀ w', C w' → Calls P g (vs.toArray ++ cap) w' (fun e w'' => e = .returned v ∧ C w'')) : ∀ w', C w' → o.quietAt P a C w' v := fun w' hw' => by
 have hargs : xs.map a.eval = vs.toArray := by
  apply Array.ext'
  simpa using ha.evs hx
 have hrun : (execOp a.eval o).run P w' = .ok (.enter g (vs.toArray ++ cap)) w' := by
  unfold execOp
  simp only [ho, resolve, Sem.run_bind, Deferred.ofValue, ha.ev hf, hargs]
  simp [invoke, Result.andThen, run_callFunc hcl]
 unfold Oper.quietAt
 rw [hrun]
 exact ⟨rfl, hC w' hw'⟩
theorem rk_call {fo : Operand} {xs : Array Operand} {ats : Array TypeId} {g : FuncId} {cap : Array Value} {vs : List Value} {d : Nat} {v : Value} (hcl : Callable P g) (hg : o.guard = none) (hd : o.dst = some d) (hN : Nat.blt d N = true)
  (ho : o.op = .call { callee := .value fo, args := xs, argTypes := ats }) (hf : Fr.ev F fo = some (.func (.func g) #[] cap)) (hx : Fr.evs F xs.toList = some vs)
  (hC : ∀ w', C w' → Calls P g (vs.toArray ++ cap) w' (fun e w'' => e = .returned v ∧ C w'')) (h : RKl P f N ops C rest k ((d, v) :: F) R) : RKl P f N ops C (o :: rest) k F R := by
 intro a ha
 refine wpQuiet_step fun K hK => ?_
 rw [if_pos (by simp [Region.wanted, hg])]
 refine ⟨v, quiet_call ha hcl ho hf hx hC, ?_⟩
 rw [hd]
 exact hK _ (h _ (ha.put (lt_of_blt hN) v))
theorem rk_gcall {fo : Operand} {xs : Array Operand} {ats : Array TypeId} {g j gs : Nat} {b : Bool} {cap : Array Value} {vs : List Value} {d : Nat} {v : Value} (hcl : Callable P g) (hg : o.guard = some (j, b)) (hj : (ops[j]?).bind (·.dst) = some gs) (hb : Fr.get F gs = some (.bool b)) (hd : o.dst = some d) (hN : Nat.blt d N = true)
  (ho : o.op = .call { callee := .value fo, args := xs, argTypes := ats }) (hf : Fr.ev F fo = some (.func (.func g) #[] cap)) (hx : Fr.evs F xs.toList = some vs)
  (hC : ∀ w', C w' → Calls P g (vs.toArray ++ cap) w' (fun e w'' => e = .returned v ∧ C w'')) (h : RKl P f N ops C rest k ((d, v) :: F) R) : RKl P f N ops C (o :: rest) k F R := by
 intro a ha
 refine wpQuiet_step fun K hK => ?_
 rw [if_pos (by simp [Region.wanted, hg, yielded_of ha hj hb])]
 refine ⟨v, quiet_call ha hcl ho hf hx hC, ?_⟩
 rw [hd]
 exact hK _ (h _ (ha.put (lt_of_blt hN) v))
end
end Go.Proofs.Ytfbbagnpdfafjaa
set_option maxRecDepth 100000
namespace Go.Proofs.Ytfbbagnpdfafjaa
open Go.RowKit Go.Proofs
structure Cl (B : Nat) (w0 : World) (H : List (Option Blk)) (w : World) : Prop where
 own : Own B w0 w H
theorem wPos {x : Int} (h0 : 0 ≤ x) (h1 : x < 18446744073709551616) : IntKind.u64.wrap x = ((x.toNat : Nat) : Int) := by rw [IntKind.wrap_u64]; omega
theorem iPos {n : Nat} {x : Int} (e : (n : Int) = x) (h1 : x < 9223372036854775808) (h0 : 0 ≤ x) : IntKind.i64.wrap (n : Int) = x := by rw [e]; exact IntWalk.i64_in _ (by omega)
theorem IRow.mk1 (b : Nat) (E : TypeId) (n : Nat) (G : Int → Value) (h : n ≤ 9223372036854775807) : IRow (.slice (some ⟨b, 0, none⟩) n n) E n G (some (vch b E n G)) :=
 .inr ⟨b, n, _, rfl, Nat.le_refl _, by unfold maxLen; omega, by simp [vch], fun _ _ => rfl⟩
end Go.Proofs.Ytfbbagnpdfafjaa
