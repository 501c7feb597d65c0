import Derived.Test.YtlldeifbfpmbaaaGreatFbD
import Derived.Test.YtlldeifbfpmbaaaGreatTab
import Derived.Deep.Quiet
set_option maxRecDepth 100000
namespace Go.Proofs.YtlldeifbfpmbaaaGreat
open Go.RowKit Go.Proofs Go.MapKept
theorem CwOk.push {f : Fair} {l : Int → Int} {b : Int} {x : Cw} (h : CwOk f l b x) {g : Int} (g0 : 0 ≤ g) (g1 : g < f.n) (hl : l g ≠ b) {sv : Value} {c : Option Blk} {P A : Int → Int} (hp : HP ((x.n : Int) + 1) P A) (hc : CH (rkL (f.be b) (f.bl b)) ((x.n + 1 : Nat) : Int) P A) (hr : IRow sv 3 (x.n + 1) (crG P) c)
  (hC : ∀ (N : Int) (S : Int → Int), 0 ≤ g → g < N → S g = 0 → 0 < f.rb b g + 1 → Cont N x.n x.P x.A S → Cont N (x.n + 1) P A (upd S g (f.rb b g + 1))) : CwOk f (upd l g b) b ⟨x.cb, x.mb, sv, c, x.n + 1, P, A⟩ := by
 have hr0 := Fair.rb_nonneg f b g
 have h1 := hC f.n _ g0 g1 (if_neg hl) (by omega) h.ct
 refine ⟨hp, hc, cont_congr h1 fun i i0 i1 => ?_, ?_, hr⟩
 ·unfold upd
  by_cases e : i = g
  ·rw [if_pos e, if_pos e, if_pos rfl, e]
  ·rw [if_neg e, if_neg e]
 ·rw [Fair.cnt_upd g0 g1, if_neg hl, if_pos rfl, ← h.cn]
  show ((x.n + 1 : Nat) : Int) = _
  omega
theorem CwOk.pop {f : Fair} {l : Int → Int} {b : Int} {x : Cw} (h : CwOk f l b x) (b0 : 0 ≤ b) (hn : 1 ≤ x.n) {sv : Value} {c : Option Blk} {P A : Int → Int} (hp : HP ((x.n - 1 : Nat) : Int) P A) (hc : CH (rkL (f.be b) (f.bl b)) ((x.n - 1 : Nat) : Int) P A) (hr : IRow sv 3 (x.n - 1) (crG P) c)
  (hC : ∀ (N : Int) (S : Int → Int), Cont N x.n x.P x.A S → Cont N ((x.n - 1 : Nat) : Int) P A (upd S (x.P 0) 0)) : CwOk f (upd l (x.P 0) (-1)) b ⟨x.cb, x.mb, sv, c, x.n - 1, P, A⟩ := by
 obtain ⟨⟨w0, w1⟩, hw, _⟩ := h.mem (k := 0) (by omega) (by omega)
 refine ⟨hp, hc, cont_congr (hC f.n _ h.ct) fun i i0 i1 => ?_, ?_, hr⟩
 ·unfold upd
  by_cases e : i = x.P 0
  ·rw [if_pos e, if_pos e, if_neg (by omega)]
  ·rw [if_neg e, if_neg e]
 ·rw [Fair.cnt_upd w0 w1, if_pos hw, if_neg (by omega), ← h.cn]
  show ((x.n - 1 : Nat) : Int) = _
  omega
theorem CwOk.top {f : Fair} {l : Int → Int} {b : Int} {x : Cw} (h : CwOk f l b x) (hn : 1 ≤ x.n) {i : Int} (i0 : 0 ≤ i) (i1 : i < f.n) (hi : l i = b) : f.rb b i ≤ f.rb b (x.P 0) := by
 obtain ⟨k, k0, k1, rfl⟩ := h.find i0 i1 hi
 have h1 := h.hp.top k.toNat k rfl k0 k1
 have h2 := (h.mem k0 k1).2.2
 have h3 := (h.mem (k := 0) (by omega) (by omega)).2.2
 unfold bf at h1
 omega
structure OS (f : Fair) (l nx al : Int → Int) (ka : Nat) (K : Nat → Cw) : Prop where
 da : f.DA l nx
 alr : ∀ i : Int, 0 ≤ i → i < ka → (0 ≤ al i ∧ al i < f.n) ∧ l (al i) = -1
 ali : ∀ i j : Int, 0 ≤ i → i < ka → 0 ≤ j → j < ka → al i = al j → i = j
 alo : ∀ g : Int, 0 ≤ g → g < f.n → l g = -1 → (∃ i : Int, 0 ≤ i ∧ i < ka ∧ al i = g) ∨ nx g = f.gl g
 cw : ∀ b : Nat, b < f.m → CwOk f l b (K b)
section
variable {f : Fair} {l nx al : Int → Int} {ka : Nat} {K : Nat → Cw} (hf : f.Ok) (h : OS f l nx al ka K) (hka : 1 ≤ ka)
theorem OS.top (h : OS f l nx al ka K) (hka : 1 ≤ ka) : (0 ≤ al ((ka : Int) - 1) ∧ al ((ka : Int) - 1) < f.n) ∧ l (al ((ka : Int) - 1)) = -1 := h.alr _ (by omega) (by omega)
theorem OS.drop (h : OS f l nx al ka K) (hka : 1 ≤ ka) (hx : nx (al ((ka : Int) - 1)) = f.gl (al ((ka : Int) - 1))) : OS f l nx al (ka - 1) K := by
 refine ⟨h.da, fun i i0 i1 => h.alr i i0 (by omega), fun i j i0 i1 j0 j1 => h.ali i j i0 (by omega) j0 (by omega), fun g g0 g1 hl => ?_, h.cw⟩
 rcases h.alo g g0 g1 hl with ⟨i, i0, i1, e⟩ | e
 ·by_cases c : i = (ka : Int) - 1
  ·right; rw [← e, c]; exact hx
  ·exact .inl ⟨i, i0, by omega, e⟩
 ·exact .inr e
theorem OS.skip (hf : f.Ok) (h : OS f l nx al ka K) {g : Int} (hg : g = al ((ka : Int) - 1)) (hka : 1 ≤ ka) (hn : nx g < f.gl g) (hk : ¬ f.know g (f.ge g (nx g)) ∨ f.q (f.ge g (nx g)) = 0) : OS f l (upd nx g (nx g + 1)) al ka K := by
 obtain ⟨⟨g0, g1⟩, hl⟩ := h.top hka
 rw [← hg] at g0 g1 hl
 refine ⟨h.da.skip hf g0 g1 hl hn hk, h.alr, h.ali, fun i i0 i1 hi => ?_, h.cw⟩
 by_cases e : i = g
 ·exact .inl ⟨(ka : Int) - 1, by omega, by omega, by rw [e, hg]⟩
 ·rw [upd_ne _ _ e]; exact h.alo i i0 i1 hi
theorem OS.take (hf : f.Ok) (h : OS f l nx al ka K) {g : Int} (hg : g = al ((ka : Int) - 1)) (hka : 1 ≤ ka) (hn : nx g < f.gl g) {b : Int} (hb : b = f.ge g (nx g)) (hk : f.know g b) (hc : f.cnt l b < f.q b) {x : Cw} (hx : CwOk f (upd l g b) b x) :
  OS f (upd l g b) (upd nx g (nx g + 1)) al (ka - 1) (updK K b.toNat x) := by
 obtain ⟨⟨g0, g1⟩, hl⟩ := h.top hka
 rw [← hg] at g0 g1 hl
 have hnx := h.da.nxr g g0 g1
 have hbr := hf.gr g (nx g) g0 g1 hnx.1 hn
 subst hb
 refine ⟨h.da.take hf g0 g1 hl hn hk hc, fun i i0 i1 => ?_, fun i j i0 i1 j0 j1 => h.ali i j i0 (by omega) j0 (by omega), fun i i0 i1 hi => ?_, fun c hcm => ?_⟩
 ·have hne : al i ≠ g := fun e => by have := h.ali i ((ka : Int) - 1) i0 (by omega) (by omega) (by omega) (by rw [e, hg]); omega
  rw [upd_ne _ _ hne]
  exact h.alr i i0 (by omega)
 ·by_cases e : i = g
  ·rw [e, upd_same] at hi; omega
  ·rw [upd_ne _ _ e] at hi ⊢
   rcases h.alo i i0 i1 hi with ⟨j, j0, j1, e2⟩ | e2
   ·exact .inl ⟨j, j0, Classical.byContradiction fun hlt => e (by rw [← e2, hg, show j = (ka : Int) - 1 by omega]), e2⟩
   ·exact .inr e2
 ·by_cases e : c = (f.ge g (nx g)).toNat
  ·rw [e, updK_same, show (((f.ge g (nx g)).toNat : Nat) : Int) = f.ge g (nx g) by omega]
   exact hx
  ·rw [updK_ne _ _ e]
   refine (h.cw c hcm).other fun i i0 i1 => ?_
   by_cases e2 : i = g
   ·rw [e2, upd_same, hl]; omega
   ·rw [upd_ne _ _ e2]
theorem OS.swap (hf : f.Ok) (h : OS f l nx al ka K) {g : Int} (hg : g = al ((ka : Int) - 1)) (hka : 1 ≤ ka) (hn : nx g < f.gl g) {b : Int} (hb : b = f.ge g (nx g)) (hk : f.know g b) (hq : f.q b ≤ f.cnt l b) {x y : Cw} (hx : CwOk f (upd l g b) b x) (hxn : 1 ≤ x.n) (hy : CwOk f (upd (upd l g b) (x.P 0) (-1)) b y) :
  OS f (upd (upd l g b) (x.P 0) (-1)) (upd nx g (nx g + 1)) (upd al ((ka - 1 : Nat) : Int) (x.P 0)) (ka - 1 + 1) (updK K b.toNat y) := by
 obtain ⟨⟨g0, g1⟩, hl⟩ := h.top hka
 rw [← hg] at g0 g1 hl
 have hnx := h.da.nxr g g0 g1
 have hbr := hf.gr g (nx g) g0 g1 hnx.1 hn
 obtain ⟨⟨w0, w1⟩, hw, _⟩ := hx.mem (k := 0) (by omega) (by omega)
 subst hb
 have hag : ∀ i : Int, 0 ≤ i → i < ((ka - 1 : Nat) : Int) → al i ≠ g := fun i i0 i1 e => by have := h.ali i ((ka : Int) - 1) i0 (by omega) (by omega) (by omega) (by rw [e, hg]); omega
 have haw : ∀ i : Int, 0 ≤ i → i < ((ka - 1 : Nat) : Int) → al i ≠ x.P 0 := fun i i0 i1 e => by
  have h1 := hag i i0 i1
  rw [← e, upd_ne _ _ h1, (h.alr i i0 (by omega)).2] at hw
  omega
 refine ⟨h.da.swap hf g0 g1 hl hn hk hq w0 w1 hw fun i i0 i1 hi => hx.top hxn i0 i1 hi, fun i i0 i1 => ?_, fun i j i0 i1 j0 j1 e => ?_, fun i i0 i1 hi => ?_, fun c hcm => ?_⟩
 ·by_cases e : i = ((ka - 1 : Nat) : Int)
  ·rw [e, upd_same, upd_same]; exact ⟨⟨w0, w1⟩, rfl⟩
  ·rw [upd_ne _ _ e, upd_ne _ _ (haw i i0 (by omega)), upd_ne _ _ (hag i i0 (by omega))]
   exact h.alr i i0 (by omega)
 ·by_cases e1 : i = ((ka - 1 : Nat) : Int) <;> by_cases e2 : j = ((ka - 1 : Nat) : Int)
  ·omega
  ·rw [e1, upd_same, upd_ne _ _ e2] at e; exact absurd e.symm (haw j j0 (by omega))
  ·rw [e2, upd_same, upd_ne _ _ e1] at e; exact absurd e (haw i i0 (by omega))
  ·rw [upd_ne _ _ e1, upd_ne _ _ e2] at e; exact h.ali i j i0 (by omega) j0 (by omega) e
 ·by_cases e : i = x.P 0
  ·exact .inl ⟨((ka - 1 : Nat) : Int), by omega, by omega, by rw [upd_same, e]⟩
  ·rw [upd_ne _ _ e] at hi
   by_cases e1 : i = g
   ·rw [e1, upd_same] at hi; omega
   ·rw [upd_ne _ _ e1] at hi ⊢
    rcases h.alo i i0 i1 hi with ⟨j, j0, j1, e2⟩ | e2
    ·have hj : j < ((ka - 1 : Nat) : Int) := Classical.byContradiction fun hlt => e1 (by rw [← e2, hg, show j = (ka : Int) - 1 by omega])
     exact .inl ⟨j, j0, by omega, by rw [upd_ne _ _ (by omega)]; exact e2⟩
    ·exact .inr e2
 ·by_cases e : c = (f.ge g (nx g)).toNat
  ·rw [e, updK_same, show (((f.ge g (nx g)).toNat : Nat) : Int) = f.ge g (nx g) by omega]
   exact hy
  ·rw [updK_ne _ _ e]
   refine (h.cw c hcm).other fun i i0 i1 => ?_
   by_cases e3 : i = x.P 0
   ·rw [e3, upd_same]
    by_cases e4 : x.P 0 = g
    ·rw [e4, hl]
    ·rw [upd_ne _ _ e4] at hw
     rw [hw]; omega
   ·rw [upd_ne _ _ e3]
    by_cases e2 : i = g
    ·rw [e2, upd_same, hl]; omega
    ·rw [upd_ne _ _ e2]
end
def left (f : Fair) (nx : Int → Int) : Nat := (sm (fun g => (f.gl g : Int) - nx g) f.n).toNat
theorem left_upd {f : Fair} {l nx : Int → Int} (h : f.DA l nx) {g : Int} (g0 : 0 ≤ g) (g1 : g < f.n) (hn : nx g < f.gl g) : left f (upd nx g (nx g + 1)) + 1 = left f nx := by
 unfold left
 have e : (fun i => (f.gl i : Int) - upd nx g (nx g + 1) i) = upd (fun i => f.gl i - nx i) g (f.gl g - nx g - 1) := by
  funext i
  unfold upd
  by_cases c : i = g
  ·rw [if_pos c, if_pos c, c]; omega
  ·rw [if_neg c, if_neg c]
 have h1 := sm_pos (f := fun g => (f.gl g : Int) - nx g) (k := f.n) (fun i i0 i1 => by have := h.nxr i i0 i1; omega) g g0 g1
 rw [e, sm_upd _ _ _ g0 g1]
 omega
theorem OS.init {f : Fair} (hf : f.Ok) {al : Int → Int} {K : Nat → Cw} (hal : ∀ i : Int, 0 ≤ i → i < f.n → al i = i) (hK : ∀ b : Nat, b < f.m → (K b).n = 0 ∧ (K b).sv = .slice none 0 0 ∧ (K b).c = none) : OS f (fun _ => -1) (fun _ => 0) al f.n K := by
 refine ⟨Fair.DA.init f hf.q0, fun i i0 i1 => by rw [hal i i0 i1]; exact ⟨⟨i0, i1⟩, rfl⟩, fun i j i0 i1 j0 j1 e => by rw [hal i i0 i1, hal j j0 j1] at e; exact e, fun g g0 g1 _ => .inl ⟨g, g0, g1, hal g g0 g1⟩, fun b hb => ?_⟩
 obtain ⟨h1, h2, h3⟩ := hK b hb
 refine ⟨fun k k0 k1 => by omega, ⟨fun k k0 k1 => by omega, fun k j k0 k1 => by omega⟩, ⟨fun k k0 k1 => by omega, fun k j k0 k1 => by omega, fun i i0 i1 hi => ?_⟩, ?_, ?_⟩
 ·rw [if_neg (by omega)] at hi; omega
 ·rw [h1]
  unfold Fair.cnt
  rw [sm_congr (g := fun _ => 0) fun i _ _ => if_neg (show ¬ (-1 : Int) = b by omega), sm_const 0 (by omega)]
  omega
 ·rw [h1, h2, h3]; exact IRow.nil _ _
end Go.Proofs.YtlldeifbfpmbaaaGreat
namespace Go.Proofs.YtlldeifbfpmbaaaGreat
open Go.RowKit
section
variable {P : Program} {f N : Nat} {k : List Item} {F : Fr} {w : World} {R : Ending → World → Prop} {ops : Array Oper} {o : Oper} {rest : List Oper} {C : World → Prop}
def RKl (P : Program) (f N : Nat) (ops : Array Oper) (C : World → Prop) (l : List Oper) (k : List Item) (F : Fr) (R : Ending → World → Prop) : Prop :=
 ∀ a, Holds N F a → wpQuiet P ops C (fun a' => ∀ w', C w' → RunA P f k a' w' R) l a
theorem run_class {id : Nat} {l : List Oper} (C : World → Prop) (h0 : C w.drew) (hm : P.follows .mixedOrders = true) (hB : Region.lexB .any l.toArray = true) (h : RKl P f N l.toArray C l k F R) : Run P f N (.code (.region id l.toArray true) :: k) F w R :=
 fun a ha => runA_of_wp (wp_region_quiet (C := C) hm hB h0 (by exact h a ha))
theorem rk_nil (h : ∀ w', C w' → Run P f N k F w' R) : RKl P f N ops C [] k F R := fun a ha => wpQuiet_nil fun w' hw' => h w' hw' a ha
theorem rk_v {d : Nat} {v : Value} (hg : o.guard = none) (hd : o.dst = some d) (hN : Nat.blt d N = true) (hv : ∀ w', C w' → OpV P N o F w' v) (h : RKl P f N ops C rest k ((d, v) :: F) R) : RKl P f N ops C (o :: rest) k F R := by
 intro a ha
 refine wpQuiet_step fun K hK => ?_
 rw [if_pos (by simp [Region.wanted, hg])]
 refine ⟨v, fun w' hw' => ?_, ?_⟩
 ·unfold Oper.quietAt
  rw [hv w' hw' a ha]
  exact ⟨rfl, rfl⟩
 ·rw [hd]
  exact hK _ (h _ (ha.put (lt_of_blt hN) v))
theorem rk_gv {j g d : Nat} {b : Bool} {v : Value} (hg : o.guard = some (j, b)) (hj : (ops[j]?).bind (·.dst) = some g) (hb : Fr.get F g = some (.bool b)) (hd : o.dst = some d) (hN : Nat.blt d N = true) (hv : ∀ w', C w' → OpV P N o F w' v)
  (h : RKl P f N ops C rest k ((d, v) :: F) R) : RKl P f N ops C (o :: rest) k F R := by
 intro a ha
 refine wpQuiet_step fun K hK => ?_
 rw [if_pos (by simp [Region.wanted, hg, yielded_of ha hj hb])]
 refine ⟨v, fun w' hw' => ?_, ?_⟩
 ·unfold Oper.quietAt
  rw [hv w' hw' a ha]
  exact ⟨rfl, rfl⟩
 ·rw [hd]
  exact hK _ (h _ (ha.put (lt_of_blt hN) v))
theorem rk_gskip {j g d : Nat} {b b' : Bool} (hg : o.guard = some (j, b)) (hj : (ops[j]?).bind (·.dst) = some g) (hb : Fr.get F g = some (.bool b')) (hne : (b' == b) = false) (hd : o.dst = some d) (hN : Nat.blt d N = true)
  (h : RKl P f N ops C rest k ((d, undef) :: F) R) : RKl P f N ops C (o :: rest) k F R := by
 intro a ha
 refine wpQuiet_step fun K hK => ?_
 have hw : Region.wanted o (yielded ops a.tmps) = false := by
  simp only [Region.wanted, hg, yielded_of ha hj hb]
  simpa using hne
 rw [if_neg (by simp [hw]), hd]
 exact hK _ (h _ (ha.put (lt_of_blt hN) undef))
theorem holds_at {a : Act} (ha : Holds N F a) {g : Nat} {v : Value} (h : Fr.get F g = some v) : Holds N ((g, v) :: F) a := ha.weaken fun i u hu => by
 unfold Fr.get at hu
 by_cases e' : i = g
 ·subst e'; simp at hu; rw [← hu]; exact h
 ·have : Nat.beq i g = false := nbeq e'
  simpa [this] using hu
theorem rk_split (g : Nat) {b : Bool} {l : List Oper} (hb : Fr.get F g = some (.bool b)) (ht : b = true → RKl P f N ops C l k ((g, .bool true) :: F) R) (hf : b = false → RKl P f N ops C l k ((g, .bool false) :: F) R) : RKl P f N ops C l k F R := by
 intro a ha
 cases hb' : b
 ·exact hf hb' a (holds_at ha (by rw [hb, hb']))
 ·exact ht hb' a (holds_at ha (by rw [hb, hb']))
theorem rk_split_dec (g : Nat) {p : Prop} {dp : Decidable p} {l : List Oper} (hb : Fr.get F g = some (.bool (decide p))) (ht : p → RKl P f N ops C l k ((g, .bool true) :: F) R) (hf : ¬ p → RKl P f N ops C l k ((g, .bool false) :: F) R) : RKl P f N ops C l k F R :=
 rk_split g hb (fun h => ht (of_decide_eq_true h)) (fun h => hf (of_decide_eq_false h))
theorem rl_no (g : Nat) {b : Bool} {l : List Oper} (hb : Fr.get F g = some (.bool b)) (h : b = false) (hf : RL P f N ops l k ((g, .bool false) :: F) w R) : RL P f N ops l k F w R :=
 rl_split g hb (fun e => by rw [h] at e; cases e) (fun _ => hf)
theorem rl_noD (g : Nat) {p : Prop} {dp : Decidable p} {l : List Oper} (hb : Fr.get F g = some (.bool (decide p))) (h : ¬ p) (hf : RL P f N ops l k ((g, .bool false) :: F) w R) : RL P f N ops l k F w R :=
 rl_split_dec g hb (fun e => absurd e h) (fun _ => hf)
theorem rl_yes (g : Nat) {b : Bool} {l : List Oper} (hb : Fr.get F g = some (.bool b)) (h : b = true) (hf : RL P f N ops l k ((g, .bool true) :: F) w R) : RL P f N ops l k F w R :=
 rl_split g hb (fun _ => hf) (fun e => by rw [h] at e; cases e)
theorem rl_yesD (g : Nat) {p : Prop} {dp : Decidable p} {l : List Oper} (hb : Fr.get F g = some (.bool (decide p))) (h : p) (hf : RL P f N ops l k ((g, .bool true) :: F) w R) : RL P f N ops l k F w R :=
 rl_split_dec g hb (fun _ => hf) (fun e => absurd h e)
theorem quiet_call {fo : Operand} {xs : Array Operand} {ats : Array TypeId} {g : FuncId} {cap : Array Value} {vs : List Value} {v : Value} {a : Act} (ha : Holds N F a) (hcl : Callable P g)
  (ho : o.op = .call { callee := .value fo, args := xs, argTypes := ats }) (hf : Fr.ev F fo = some (.func (.func g) #[] cap)) (hx : Fr.evs F xs.toList = some vs)
  (hC : ∀ w', C w' → Calls P g (vs.toArray ++ cap) w' (fun e w'' => e = .returned v ∧ C w'')) : ∀ w', C w' → o.quietAt P a C w' v := fun w' hw' => by
 have hargs : xs.map a.eval = vs.toArray := by
  apply Array.ext'
  simpa using ha.evs hx
 have hrun : (execOp a.eval o).run P w' = .ok (.enter g (vs.toArray ++ cap)) w' := by
  unfold execOp
  simp only [ho, resolve, Sem.run_bind, Deferred.ofValue, ha.ev hf, hargs]
  simp [invoke, Result.andThen, run_callFunc hcl]
 unfold Oper.quietAt
 rw [hrun]
 exact ⟨rfl, hC w' hw'⟩
theorem rk_call {fo : Operand} {xs : Array Operand} {ats : Array TypeId} {g : FuncId} {cap : Array Value} {vs : List Value} {d : Nat} {v : Value} (hcl : Callable P g) (hg : o.guard = none) (hd : o.dst = some d) (hN : Nat.blt d N = true)
  (ho : o.op = .call { callee := .value fo, args := xs, argTypes := ats }) (hf : Fr.ev F fo = some (.func (.func g) #[] cap)) (hx : Fr.evs F xs.toList = some vs)
  (hC : ∀ w', C w' → Calls P g (vs.toArray ++ cap) w' (fun e w'' => e = .returned v ∧ C w'')) (h : RKl P f N ops C rest k ((d, v) :: F) R) : RKl P f N ops C (o :: rest) k F R := by
 intro a ha
 refine wpQuiet_step fun K hK => ?_
 rw [if_pos (by simp [Region.wanted, hg])]
 refine ⟨v, quiet_call ha hcl ho hf hx hC, ?_⟩
 rw [hd]
 exact hK _ (h _ (ha.put (lt_of_blt hN) v))
theorem rk_gcall {fo : Operand} {xs : Array Operand} {ats : Array TypeId} {g j gs : Nat} {b : Bool} {cap : Array Value} {vs : List Value} {d : Nat} {v : Value} (hcl : Callable P g) (hg : o.guard = some (j, b)) (hj : (ops[j]?).bind (·.dst) = some gs) (hb : Fr.get F gs = some (.bool b)) (hd : o.dst = some d) (hN : Nat.blt d N = true)
  (ho : o.op = .call { callee := .value fo, args := xs, argTypes := ats }) (hf : Fr.ev F fo = some (.func (.func g) #[] cap)) (hx : Fr.evs F xs.toList = some vs)
  (hC : ∀ w', C w' → Calls P g (vs.toArray ++ cap) w' (fun e w'' => e = .returned v ∧ C w'')) (h : RKl P f N ops C rest k ((d, v) :: F) R) : RKl P f N ops C (o :: rest) k F R := by
 intro a ha
 refine wpQuiet_step fun K hK => ?_
 rw [if_pos (by simp [Region.wanted, hg, yielded_of ha hj hb])]
 refine ⟨v, quiet_call ha hcl ho hf hx hC, ?_⟩
 rw [hd]
 exact hK _ (h _ (ha.put (lt_of_blt hN) v))
end
section
variable {P : Program} {f N : Nat} {ops : Array Oper} {k : List Item} {F : Fr} {w : World} {R : Ending → World → Prop} {S : World → Prop} {fuel : Nat} {listed : Array Bool}
end
end Go.Proofs.YtlldeifbfpmbaaaGreat
