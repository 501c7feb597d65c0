import Derived.Test.YtbepolognfdkeaaGreatFcA
import Derived.Test.YtbepolognfdkeaaGreatFaA
set_option maxRecDepth 100000
namespace Go.Proofs.YtbepolognfdkeaaGreat
open Go.RowKit Go.Proofs
theorem cnk_upd {of : Int → Int} {n k x b : Int} (k0 : 0 ≤ k) (k1 : k < n) : cnk (upd of k x) n b = cnk of n b - (if of k = b then 1 else 0) + (if x = b then 1 else 0) := by
 unfold cnk
 have e : (fun i => if upd of k x i = b then (1 : Int) else 0) = upd (fun i => if of i = b then 1 else 0) k (if x = b then 1 else 0) := by
  funext i
  unfold upd
  by_cases c : i = k
  ·rw [if_pos c, if_pos c]
  ·rw [if_neg c, if_neg c]
 rw [e, sm_upd _ _ _ k0 k1]
def uns (seen : Int → Bool) (n : Int) : Int := sm (fun k => if seen k = true then 0 else 1) n
theorem uns_nonneg (seen : Int → Bool) (n : Int) : 0 ≤ uns seen n := sm_nonneg fun k _ _ => by split <;> omega
theorem uns_mark {seen : Int → Bool} {n k : Int} (k0 : 0 ≤ k) (k1 : k < n) (h : seen k = false) : uns (upd seen k true) n = uns seen n - 1 := by
 unfold uns
 have e : (fun i => if upd seen k true i = true then (0 : Int) else 1) = upd (fun i => if seen i = true then 0 else 1) k 0 := by
  funext i
  unfold upd
  by_cases c : i = k
  ·rw [if_pos c, if_pos c]; rfl
  ·rw [if_neg c, if_neg c]
 rw [e, sm_upd _ _ _ k0 k1, if_neg (by rw [h]; exact fun h => Bool.noConfusion h)]
 omega
theorem uns_le {s s' : Int → Bool} {n : Int} (h : ∀ k : Int, 0 ≤ k → k < n → s k = true → s' k = true) : uns s' n ≤ uns s n := sm_le fun k k0 k1 => by
 by_cases c : s k = true
 ·rw [if_pos c, if_pos (h k k0 k1 c)]; exact Int.le_refl _
 ·rw [if_neg c]; split <;> omega
structure KL (n : Int) (op : Int → Int → Prop) (of : Int → Int) (s0 s : Int → Bool) : Prop where
 sub : ∀ k : Int, 0 ≤ k → k < n → s0 k = true → s k = true
 cl : ∀ k : Int, 0 ≤ k → k < n → s k = true → s0 k = true ∨ 0 ≤ of k ∧ ∀ j : Int, 0 ≤ j → j < n → op (of k) j → s j = true
theorem KL.refl (n : Int) (op : Int → Int → Prop) (of : Int → Int) (s : Int → Bool) : KL n op of s s := ⟨fun _ _ _ h => h, fun _ _ _ h => .inl h⟩
structure KF (n : Int) (op : Int → Int → Prop) (i : Int) (of : Int → Int) (s0 s : Int → Bool) : Prop where
 l : KL n op of s0 s
 all : ∀ j : Int, 0 ≤ j → j < n → op i j → s j = true
structure KS (n : Int) (op : Int → Int → Prop) (i : Int) (of : Int → Int) (s0 : Int → Bool) (of' : Int → Int) : Prop where
 ok : ∀ k : Int, 0 ≤ k → k < n → 0 ≤ of' k → op (of' k) k
 cnt : ∀ x : Int, 0 ≤ x → cnk of' n x = cnk of n x + if x = i then 1 else 0
 old : ∀ k : Int, 0 ≤ k → k < n → s0 k = true → of' k = of k
 rng : ∀ k : Int, 0 ≤ k → k < n → -1 ≤ of k → -1 ≤ of' k
section
variable {n : Int} {op : Int → Int → Prop} {i : Int} {of : Int → Int} {s0 s : Int → Bool}
theorem KL.step (h : KL n op of s0 s) {k : Int} (_ : 0 ≤ k) (_ : k < n) (ho : 0 ≤ of k) {s2 : Int → Bool} (hf : KF n op (of k) of (upd s k true) s2) : KL n op of s0 s2 := by
 have hs2 : ∀ j : Int, 0 ≤ j → j < n → s j = true → s2 j = true := fun j j0 j1 hj => hf.l.sub j j0 j1 (by unfold upd; split; rfl; exact hj)
 refine ⟨fun j j0 j1 hj => hs2 j j0 j1 (h.sub j j0 j1 hj), fun j j0 j1 hj => ?_⟩
 rcases hf.l.cl j j0 j1 hj with h1 | h1
 ·by_cases c : j = k
  ·right; rw [c]; exact ⟨ho, hf.all⟩
  ·rw [upd_ne _ _ c] at h1
   rcases h.cl j j0 j1 h1 with h2 | ⟨h2, h3⟩
   ·exact .inl h2
   ·exact .inr ⟨h2, fun x x0 x1 hx => hs2 x x0 x1 (h3 x x0 x1 hx)⟩
 ·exact .inr h1
theorem KS.free (hok : ∀ k : Int, 0 ≤ k → k < n → 0 ≤ of k → op (of k) k) (h : KL n op of s0 s) {k : Int} (k0 : 0 ≤ k) (k1 : k < n) (hs : s k = false) (hf : of k < 0) (i0 : 0 ≤ i) (hi : op i k) : KS n op i of s0 (upd of k i) := by
 refine ⟨fun j j0 j1 hj => ?_, fun x x0 => ?_, fun j j0 j1 hj => ?_, fun j j0 j1 hj => ?_⟩
 ·by_cases c : j = k
  ·rw [c, upd_same]; exact hi
  ·rw [upd_ne _ _ c] at hj ⊢; exact hok j j0 j1 hj
 ·rw [cnk_upd k0 k1, if_neg (by omega)]
  by_cases c : x = i
  ·rw [if_pos c, if_pos c.symm]; omega
  ·rw [if_neg c, if_neg fun e => c e.symm]; omega
 ·refine upd_ne _ _ fun c => ?_
  rw [c] at hj
  rw [h.sub k k0 k1 hj] at hs
  exact Bool.noConfusion hs
 ·unfold upd; split
  ·omega
  ·exact hj
theorem KS.push (h : KL n op of s0 s) {k : Int} (k0 : 0 ≤ k) (k1 : k < n) (hs : s k = false) (i0 : 0 ≤ i) (hi : op i k) {of1 : Int → Int} (hS : KS n op (of k) of (upd s k true) of1) : KS n op i of s0 (upd of1 k i) := by
 have hk : of1 k = of k := hS.old k k0 k1 (upd_same _ _ _)
 refine ⟨fun j j0 j1 hj => ?_, fun x x0 => ?_, fun j j0 j1 hj => ?_, fun j j0 j1 hj => ?_⟩
 ·by_cases c : j = k
  ·rw [c, upd_same]; exact hi
  ·rw [upd_ne _ _ c] at hj ⊢; exact hS.ok j j0 j1 hj
 ·rw [cnk_upd k0 k1, hS.cnt x x0, hk]
  have e1 : (if i = x then (1 : Int) else 0) = if x = i then 1 else 0 := by
   by_cases c : x = i
   ·rw [if_pos c, if_pos c.symm]
   ·rw [if_neg c, if_neg (show ¬ i = x from fun e => c e.symm)]
  have e2 : (if of k = x then (1 : Int) else 0) = if x = of k then 1 else 0 := by
   by_cases c : x = of k
   ·rw [if_pos c, if_pos c.symm]
   ·rw [if_neg c, if_neg (show ¬ of k = x from fun e => c e.symm)]
  rw [e1, e2]
  omega
 ·have hjk : j ≠ k := fun c => by
   rw [c] at hj
   rw [h.sub k k0 k1 hj] at hs
   exact Bool.noConfusion hs
  rw [upd_ne _ _ hjk]
  exact hS.old j j0 j1 (by rw [upd_ne _ _ hjk]; exact h.sub j j0 j1 hj)
 ·unfold upd; split
  ·omega
  ·exact hS.rng j j0 j1 hj
end
structure KD (n : Int) (op : Int → Int → Prop) (P : Int → Prop) (of : Int → Int) : Prop where
 ok : ∀ k : Int, 0 ≤ k → k < n → 0 ≤ of k → op (of k) k
 one : ∀ x : Int, 0 ≤ x → P x → cnk of n x = 1
 none : ∀ x : Int, 0 ≤ x → ¬ P x → cnk of n x = 0
theorem KD.init (n : Int) (op : Int → Int → Prop) (of : Int → Int) (h : ∀ k : Int, 0 ≤ k → k < n → of k < 0) : KD n op (fun _ => False) of := by
 refine ⟨fun k k0 k1 hk => by have := h k k0 k1; omega, fun x _ hx => hx.elim, fun x x0 _ => ?_⟩
 unfold cnk
 by_cases n0 : 0 ≤ n
 ·rw [sm_congr (g := fun _ => 0) fun k k0 k1 => if_neg (by have := h k k0 k1; omega), sm_const 0 n0]; omega
 ·exact sm_neg _ (by omega)
theorem KD.step {n : Int} {op : Int → Int → Prop} {P Q : Int → Prop} {of of' : Int → Int} {s0 : Int → Bool} {i : Int} (h : KD n op P of) (hi : ¬ P i) (hS : KS n op i of s0 of') (hQ : ∀ x : Int, 0 ≤ x → (Q x ↔ P x ∨ x = i)) : KD n op Q of' := by
 refine ⟨hS.ok, fun x x0 hx => ?_, fun x x0 hx => ?_⟩
 ·rw [hS.cnt x x0]
  by_cases c : x = i
  ·rw [if_pos c, h.none x x0 (by rw [c]; exact hi)]; omega
  ·rw [if_neg c, h.one x x0 (((hQ x x0).1 hx).elim id fun e => absurd e c)]; omega
 ·rw [hS.cnt x x0, if_neg fun c => hx ((hQ x x0).2 (.inr c)), h.none x x0 fun hp => hx ((hQ x x0).2 (.inl hp))]; omega
theorem cnk_ex {of : Int → Int} {n x : Int} (h : cnk of n x ≠ 0) : ∃ k : Int, (0 ≤ k ∧ k < n) ∧ of k = x := Classical.byContradiction fun hno => h (by
 unfold cnk
 by_cases n0 : 0 ≤ n
 ·rw [sm_congr (g := fun _ => 0) fun k k0 k1 => if_neg fun e => hno ⟨k, ⟨k0, k1⟩, e⟩, sm_const 0 n0]; omega
 ·exact sm_neg _ (by omega))
theorem KD.fail {n : Int} {op : Int → Int → Prop} {P : Int → Prop} {of : Int → Int} {i : Int} {s : Int → Bool} (n0 : 0 ≤ n) (i0 : 0 ≤ i) (h : KD n op P of) (hi : ¬ P i) (hF : KF n op i of (fun _ => false) s) :
  ¬ ∃ σ : Int → Int, (∀ x : Int, 0 ≤ x → (P x ∨ x = i) → (0 ≤ σ x ∧ σ x < n) ∧ op x (σ x)) ∧ ∀ x y : Int, 0 ≤ x → (P x ∨ x = i) → 0 ≤ y → (P y ∨ y = i) → σ x = σ y → x = y := by
 rintro ⟨σ, h1, h2⟩
 have hown : ∀ k : Int, 0 ≤ k → k < n → s k = true → 0 ≤ of k ∧ P (of k) ∧ s (σ (of k)) = true := fun k k0 k1 hk => by
  rcases hF.l.cl k k0 k1 hk with e | ⟨e1, e2⟩
  ·exact Bool.noConfusion e
  ·have hp : P (of k) := Classical.byContradiction fun hn => by
    have h3 := h.none (of k) e1 hn
    have h4 := sm_pos (f := fun j => if of j = of k then (1 : Int) else 0) (k := n) (fun j _ _ => by split <;> omega) k k0 k1
    rw [if_pos rfl] at h4
    unfold cnk at h3
    omega
   have h5 := h1 (of k) e1 (.inl hp)
   exact ⟨e1, hp, e2 _ h5.1.1 h5.1.2 h5.2⟩
 have hsi := h1 i i0 (.inr rfl)
 have hss : s (σ i) = true := hF.all _ hsi.1.1 hsi.1.2 hsi.2
 have hinj : ∀ k j : Int, 0 ≤ k → k < n → s k = true → 0 ≤ j → j < n → s j = true → of k = of j → k = j := fun k j k0 k1 hk j0 j1 hj e => Classical.byContradiction fun hne => by
  obtain ⟨a, b, _⟩ := hown k k0 k1 hk
  have h3 := h.one _ a b
  have h4 := sm_le (f := upd (upd (fun _ => (0 : Int)) k 1) j 1) (g := fun x => if of x = of k then (1 : Int) else 0) (k := n) fun x _ _ => by
   unfold upd
   split
   ·rename_i c; rw [c, if_pos e.symm]; exact Int.le_refl _
   ·split
    ·rename_i c; rw [c, if_pos rfl]; exact Int.le_refl _
    ·show (0 : Int) ≤ _
     split <;> omega
  rw [sm_upd _ _ _ j0 j1, sm_upd _ _ _ k0 k1, upd_ne _ _ (fun c => hne c.symm), sm_const 0 n0] at h4
  unfold cnk at h3
  omega
 have c1 : sm (fun t => sm (fun k => if s k = true ∧ σ (of k) = t then 1 else 0) n) n = sm (fun k => if s k = true then 1 else 0) n := by
  rw [sm_swap]
  refine sm_congr fun k k0 k1 => ?_
  by_cases c : s k = true
  ·obtain ⟨a, b, _⟩ := hown k k0 k1 c
   have h5 := (h1 (of k) a (.inl b)).1
   rw [if_pos c, sm_congr (g := fun t => if σ (of k) = t then 1 else 0) fun t _ _ => by
    by_cases d : σ (of k) = t
    ·rw [if_pos d, if_pos ⟨c, d⟩]
    ·rw [if_neg d, if_neg fun x => d x.2], sm_one h5.1 h5.2]
  ·rw [if_neg c, sm_congr (g := fun _ => 0) fun t _ _ => if_neg fun x => c x.1, sm_const 0 n0]; omega
 have c2 : sm (fun t => sm (fun k => if s k = true ∧ σ (of k) = t then 1 else 0) n) n ≤ sm (upd (fun t => if s t = true then 1 else 0) (σ i) 0) n := sm_le fun t t0 t1 => by
  by_cases c : t = σ i
  ·rw [c, upd_same, sm_congr (g := fun _ => 0) fun k k0 k1 => if_neg fun ⟨x1, x2⟩ => by
    obtain ⟨a, b, _⟩ := hown k k0 k1 x1
    have := h2 _ _ a (.inl b) i0 (.inr rfl) x2
    rw [this] at b
    exact hi b, sm_const 0 n0]
   omega
  ·rw [upd_ne _ _ c]
   by_cases d : s t = true
   ·rw [if_pos d]
    exact sm_atmost n0 fun k j k0 k1 j0 j1 hk hj => hinj k j k0 k1 hk.1 j0 j1 hj.1 (by
     obtain ⟨a, b, _⟩ := hown k k0 k1 hk.1
     obtain ⟨a', b', _⟩ := hown j j0 j1 hj.1
     exact h2 _ _ a (.inl b) a' (.inl b') (hk.2.trans hj.2.symm))
   ·rw [if_neg d, sm_congr (g := fun _ => 0) fun k k0 k1 => if_neg fun ⟨x1, x2⟩ => by
     have := (hown k k0 k1 x1).2.2
     rw [x2] at this
     exact d this, sm_const 0 n0]
    omega
 rw [c1, sm_upd _ _ _ hsi.1.1 hsi.1.2, if_pos hss] at c2
 omega
end Go.Proofs.YtbepolognfdkeaaGreat
set_option maxRecDepth 100000
namespace Go.Proofs.YtbepolognfdkeaaGreat
noncomputable def ind (p : Prop) : Int := @ite _ p (Classical.propDecidable p) 1 0
theorem ind_t {p : Prop} (h : p) : ind p = 1 := by unfold ind; rw [if_pos h]
theorem ind_f {p : Prop} (h : ¬ p) : ind p = 0 := by unfold ind; rw [if_neg h]
theorem ind_rng (p : Prop) : 0 ≤ ind p ∧ ind p ≤ 1 := by
 by_cases h : p
 ·rw [ind_t h]; omega
 ·rw [ind_f h]; omega
theorem ind_congr {p q : Prop} (h : p ↔ q) : ind p = ind q := by
 by_cases c : p
 ·rw [ind_t c, ind_t (h.1 c)]
 ·rw [ind_f c, ind_f fun x => c (h.2 x)]
theorem ind_and {p q : Prop} : ind (p ∧ q) = ind p * ind q := by
 by_cases c : p
 ·rw [ind_t c, Int.one_mul]; exact ind_congr ⟨And.right, fun h => ⟨c, h⟩⟩
 ·rw [ind_f c, Int.zero_mul]; exact ind_f fun h => c h.1
theorem sm_span {a b : Int} {T : Int} (a0 : 0 ≤ a) (hT : b ≤ T) : sm (fun h => ind (a ≤ h ∧ h < b)) T = max 0 (b - a) := by
 by_cases hab : b ≤ a
 ·rw [sm_congr (g := fun _ => 0) fun i _ _ => ind_f (by omega)]
  by_cases c : 0 ≤ T
  ·rw [sm_const 0 c]; omega
  ·rw [sm_neg _ (by omega)]; omega
 ·have key : ∀ n : Nat, sm (fun h => ind (a ≤ h ∧ h < b)) n = max 0 (min b n - a) := by
   intro n
   induction n with
   | zero => rw [show ((0 : Nat) : Int) = 0 from rfl, sm_zero]; omega
   | succ n ih =>
    rw [show ((n + 1 : Nat) : Int) = (n : Int) + 1 by omega, sm_succ _ (by omega), ih]
    by_cases c : a ≤ n ∧ (n : Int) < b
    ·rw [ind_t c]; omega
    ·rw [ind_f c]; omega
  have e := key T.toNat
  rw [Int.toNat_of_nonneg (by omega)] at e
  rw [e]; omega
structure Lds where
 n : Nat
 r : Int → Int
 d : Int → Int
 len : Int → Int
 wo : Int → Int
namespace Lds
structure Fit (l : Lds) (M : Int) : Prop where
 r0 : ∀ i : Int, 0 ≤ i → i < l.n → 0 ≤ l.r i
 rd : ∀ i : Int, 0 ≤ i → i < l.n → l.r i < l.d i
 dM : ∀ i : Int, 0 ≤ i → i < l.n → l.d i ≤ M
 len1 : ∀ i : Int, 0 ≤ i → i < l.n → 1 ≤ l.len i
 len2 : ∀ i : Int, 0 ≤ i → i < l.n → l.len i ≤ l.d i - l.r i
theorem Fit.mono {l : Lds} {M M' : Int} (h : l.Fit M) (hM : M ≤ M') : l.Fit M' := ⟨h.r0, h.rd, fun i i0 i1 => Int.le_trans (h.dM i i0 i1) hM, h.len1, h.len2⟩
structure Sched (l : Lds) (T k : Int) (x : Int → Int → Int) : Prop where
 r01 : ∀ i h : Int, 0 ≤ i → i < l.n → 0 ≤ x i h ∧ x i h ≤ 1
 win : ∀ i h : Int, 0 ≤ i → i < l.n → x i h ≠ 0 → l.r i ≤ h ∧ h < l.d i
 sum : ∀ i : Int, 0 ≤ i → i < l.n → sm (x i) T = l.len i
 most : ∀ h : Int, 0 ≤ h → h < T → sm (fun i => x i h) l.n ≤ k
noncomputable def outs (l : Lds) (T : Int) (y : Int → Int) (i : Int) : Int := sm (fun h => ind (l.r i ≤ h ∧ h < l.d i) * (1 - y h)) T
noncomputable def need (l : Lds) (T : Int) (c y : Int → Int) : Int := sm (fun i => c i * max 0 (l.len i - l.outs T y i)) l.n
structure Crush (l : Lds) (T k : Int) (c y : Int → Int) : Prop where
 c01 : ∀ i : Int, 0 ≤ i → i < l.n → 0 ≤ c i ∧ c i ≤ 1
 y01 : ∀ h : Int, 0 ≤ h → h < T → 0 ≤ y h ∧ y h ≤ 1
 big : k * sm y T < l.need T c y
theorem Sched.no_crush {l : Lds} {T k : Int} {x : Int → Int → Int} {c y : Int → Int} (h : l.Sched T k x) (hc : l.Crush T k c y) : False := by
 have h1 : l.need T c y ≤ sm (fun i => sm (fun t => x i t * y t) T) l.n := sm_le fun i i0 i1 => by
  have hx : sm (fun t => x i t * y t) T ≥ l.len i - l.outs T y i := by
   have e : sm (fun t => x i t * y t) T = sm (x i) T - sm (fun t => x i t * (1 - y t)) T := by
    rw [← sm_sub]
    exact sm_congr fun t _ _ => by rw [Int.mul_sub, Int.mul_one]; omega
   have e2 : sm (fun t => x i t * (1 - y t)) T ≤ l.outs T y i := sm_le fun t t0 t1 => by
    have h01 := h.r01 i t i0 i1
    have hy := hc.y01 t t0 t1
    by_cases cw : x i t = 0
    ·rw [cw, Int.zero_mul]; exact Int.mul_nonneg (ind_rng _).1 (by omega)
    ·rw [ind_t (h.win i t i0 i1 cw), show x i t = 1 by omega]
     exact Int.le_refl _
   rw [e, h.sum i i0 i1]; omega
  have hn : 0 ≤ sm (fun t => x i t * y t) T := sm_nonneg fun t t0 t1 => Int.mul_nonneg (h.r01 i t i0 i1).1 (hc.y01 t t0 t1).1
  have hci := hc.c01 i i0 i1
  have hm : max 0 (l.len i - l.outs T y i) ≤ sm (fun t => x i t * y t) T := by omega
  have : c i = 0 ∨ c i = 1 := by omega
  rcases this with e | e
  ·rw [e, Int.zero_mul]; exact hn
  ·rw [e, Int.one_mul]; exact hm
 rw [sm_swap] at h1
 have h2 : sm (fun t => sm (fun i => x i t * y t) l.n) T ≤ sm (fun t => k * y t) T := sm_le fun t t0 t1 => by
  have e : sm (fun i => x i t * y t) l.n = y t * sm (fun i => x i t) l.n := by
   rw [← sm_mul]; exact sm_congr fun i _ _ => Int.mul_comm _ _
  rw [e, Int.mul_comm k]
  exact Int.mul_le_mul_of_nonneg_left (h.most t t0 t1) (hc.y01 t t0 t1).1
 rw [sm_mul] at h2
 have := hc.big
 omega
end Lds
end Go.Proofs.YtbepolognfdkeaaGreat
set_option maxRecDepth 100000
namespace Go.Proofs.YtbepolognfdkeaaGreat
def x1 (e : Int) : Int := if e % 2 = 0 then e + 1 else e - 1
theorem x1_x1 (e : Int) : x1 (x1 e) = e := by unfold x1; split <;> split <;> omega
theorem x1_rng {e : Int} {p : Nat} (h0 : 0 ≤ e) (h1 : e < 2 * p) : 0 ≤ x1 e ∧ x1 e < 2 * p := by unfold x1; split <;> omega
theorem x1_ne (e : Int) : x1 e ≠ e := by unfold x1; split <;> omega
theorem x1_pair (e : Int) : e = 2 * (e / 2) ∧ x1 e = 2 * (e / 2) + 1 ∨ e = 2 * (e / 2) + 1 ∧ x1 e = 2 * (e / 2) := by unfold x1; split <;> omega
structure Net where
 nn : Nat
 np : Nat
 TO : Int → Int
 OL : Int → Nat
 OE : Int → Int → Int
 CP : Int → Int
namespace Net
structure Ok (G : Net) : Prop where
 n2 : 2 ≤ G.nn
 to : ∀ e : Int, 0 ≤ e → e < 2 * G.np → 0 ≤ G.TO e ∧ G.TO e < G.nn
 out : ∀ v k : Int, 0 ≤ v → v < G.nn → 0 ≤ k → k < G.OL v → (0 ≤ G.OE v k ∧ G.OE v k < 2 * G.np) ∧ G.TO (x1 (G.OE v k)) = v
 all : ∀ e : Int, 0 ≤ e → e < 2 * G.np → ∃ k : Int, (0 ≤ k ∧ k < G.OL (G.TO (x1 e))) ∧ G.OE (G.TO (x1 e)) k = e
 cp : ∀ j : Int, 0 ≤ j → j < G.np → 0 ≤ G.CP j
structure Flow (G : Net) (L : Int → Int) (fl : Int) : Prop where
 nn : ∀ e : Int, 0 ≤ e → e < 2 * G.np → 0 ≤ L e
 cap : ∀ j : Int, 0 ≤ j → j < G.np → L (2 * j) + L (2 * j + 1) = G.CP j
 sum : ∀ g : Int → Int, sm (fun j => L (2 * j + 1) * (g (G.TO (2 * j + 1)) - g (G.TO (2 * j)))) G.np = fl * (g 0 - g (G.nn - 1))
def Adds (G : Net) (L L' : Int → Int) (v got : Int) : Prop :=
 ∀ g : Int → Int, sm (fun j => L' (2 * j + 1) * (g (G.TO (2 * j + 1)) - g (G.TO (2 * j)))) G.np = sm (fun j => L (2 * j + 1) * (g (G.TO (2 * j + 1)) - g (G.TO (2 * j)))) G.np + got * (g v - g (G.nn - 1))
structure Room (G : Net) (L : Int → Int) : Prop where
 nn : ∀ e : Int, 0 ≤ e → e < 2 * G.np → 0 ≤ L e
 cap : ∀ j : Int, 0 ≤ j → j < G.np → L (2 * j) + L (2 * j + 1) = G.CP j
theorem Flow.room {G : Net} {L : Int → Int} {fl : Int} (h : G.Flow L fl) : G.Room L := ⟨h.nn, h.cap⟩
theorem Flow.adds {G : Net} {L L' : Int → Int} {fl got : Int} (h : G.Flow L fl) (hr : G.Room L') (ha : G.Adds L L' 0 got) : G.Flow L' (fl + got) :=
 ⟨hr.nn, hr.cap, fun g => by rw [ha g, h.sum g, Int.add_mul]⟩
theorem Adds.zero (G : Net) (L : Int → Int) (v : Int) : G.Adds L L v 0 := fun g => by rw [Int.zero_mul, Int.add_zero]
theorem Adds.sink (G : Net) (L : Int → Int) (got : Int) : G.Adds L L (G.nn - 1) got := fun g => by rw [Int.sub_self, Int.mul_zero, Int.add_zero]
def psh (L : Int → Int) (e got : Int) : Int → Int := upd (upd L e (L e - got)) (x1 e) (L (x1 e) + got)
theorem psh_o {L : Int → Int} {e got i : Int} (h1 : i ≠ e) (h2 : i ≠ x1 e) : psh L e got i = L i := by unfold psh; rw [upd_ne _ _ h2, upd_ne _ _ h1]
theorem psh_e {L : Int → Int} {e got : Int} : psh L e got e = L e - got := by unfold psh; rw [upd_ne _ _ (fun h => x1_ne e h.symm), upd_same]
theorem psh_x {L : Int → Int} {e got : Int} : psh L e got (x1 e) = L (x1 e) + got := by unfold psh; rw [upd_same]
theorem Room.push {G : Net} {L : Int → Int} (h : G.Room L) {e got : Int} (e0 : 0 ≤ e) (e1 : e < 2 * G.np) (g0 : 0 ≤ got) (g1 : got ≤ L e) : G.Room (psh L e got) := by
 have hx := x1_rng e0 e1
 have hp := x1_pair e
 refine ⟨fun i i0 i1 => ?_, fun j j0 j1 => ?_⟩
 ·by_cases c : i = e
  ·rw [c, psh_e]; omega
  ·by_cases d : i = x1 e
   ·rw [d, psh_x]; have := h.nn _ hx.1 hx.2; omega
   ·rw [psh_o c d]; exact h.nn i i0 i1
 ·have hc := h.cap j j0 j1
  by_cases c : j = e / 2
  ·rcases hp with ⟨p1, p2⟩ | ⟨p1, p2⟩
   ·have a1 : psh L e got (2 * j) = L e - got := by rw [show 2 * j = e by omega]; exact psh_e
    have a2 : psh L e got (2 * j + 1) = L (x1 e) + got := by rw [show 2 * j + 1 = x1 e by omega]; exact psh_x
    rw [a1, a2, p2, ← c]
    rw [← c] at p1
    rw [p1]
    omega
   ·have a1 : psh L e got (2 * j + 1) = L e - got := by rw [show 2 * j + 1 = e by omega]; exact psh_e
    have a2 : psh L e got (2 * j) = L (x1 e) + got := by rw [show 2 * j = x1 e by omega]; exact psh_x
    rw [a1, a2, p2, ← c]
    rw [← c] at p1
    rw [p1]
    omega
  ·rw [psh_o (by omega) (by omega), psh_o (by omega) (by omega)]
   exact hc
theorem Adds.push {G : Net} {L L' : Int → Int} {e got : Int} (e0 : 0 ≤ e) (e1 : e < 2 * G.np) (h : G.Adds L L' (G.TO e) got) : G.Adds L (psh L' e got) (G.TO (x1 e)) got := fun g => by
 have hj0 : 0 ≤ e / 2 := by omega
 have hj1 : e / 2 < G.np := by omega
 have key : (fun j => psh L' e got (2 * j + 1) * (g (G.TO (2 * j + 1)) - g (G.TO (2 * j)))) = upd (fun j => L' (2 * j + 1) * (g (G.TO (2 * j + 1)) - g (G.TO (2 * j)))) (e / 2) (psh L' e got (2 * (e / 2) + 1) * (g (G.TO (2 * (e / 2) + 1)) - g (G.TO (2 * (e / 2))))) := by
  funext j
  by_cases c : j = e / 2
  ·rw [c, upd_same]
  ·rw [upd_ne _ _ c, psh_o]
   ·rcases x1_pair e with ⟨p1, p2⟩ | ⟨p1, p2⟩ <;> omega
   ·rcases x1_pair e with ⟨p1, p2⟩ | ⟨p1, p2⟩ <;> omega
 rw [key, sm_upd _ _ _ hj0 hj1, h g]
 have e2 : psh L' e got (2 * (e / 2) + 1) * (g (G.TO (2 * (e / 2) + 1)) - g (G.TO (2 * (e / 2)))) = L' (2 * (e / 2) + 1) * (g (G.TO (2 * (e / 2) + 1)) - g (G.TO (2 * (e / 2)))) + got * (g (G.TO (x1 e)) - g (G.TO e)) := by
  rcases x1_pair e with ⟨p1, p2⟩ | ⟨p1, p2⟩
  ·have a : psh L' e got (2 * (e / 2) + 1) = L' (2 * (e / 2) + 1) + got := by rw [← p2]; exact psh_x
   rw [a, Int.add_mul, p2]
   conv => rhs; rw [show G.TO e = G.TO (2 * (e / 2)) from congrArg _ p1]
  ·have a : psh L' e got (2 * (e / 2) + 1) = L' (2 * (e / 2) + 1) - got := by
    have h1 : psh L' e got e = L' e - got := psh_e
    rw [← p1]; exact h1
   have b : G.TO e = G.TO (2 * (e / 2) + 1) := congrArg _ p1
   rw [a, Int.sub_mul, p2, b]
   simp only [Int.mul_sub]
   omega
 rw [e2]
 simp only [Int.mul_sub]
 omega
structure Cut (G : Net) (L : Int → Int) (S : Int → Prop) : Prop where
 src : S 0
 snk : ¬ S (G.nn - 1)
 cl : ∀ e : Int, 0 ≤ e → e < 2 * G.np → S (G.TO (x1 e)) → 0 < L e → S (G.TO e)
theorem Cut.flow {G : Net} {L : Int → Int} {fl : Int} {S : Int → Prop} (hf : G.Flow L fl) (hc : G.Cut L S) : fl = sm (fun j => G.CP j * (ind (S (G.TO (2 * j + 1))) * (1 - ind (S (G.TO (2 * j)))))) G.np := by
 have h := hf.sum fun v => ind (S v)
 rw [ind_t hc.src, ind_f hc.snk] at h
 have h1 : fl = fl * (1 - 0) := by rw [Int.sub_zero, Int.mul_one]
 rw [h1, ← h]
 refine sm_congr fun j j0 j1 => ?_
 have hcap := hf.cap j j0 j1
 have n0 := hf.nn (2 * j) (by omega) (by omega)
 have n1 := hf.nn (2 * j + 1) (by omega) (by omega)
 have xa : x1 (2 * j) = 2 * j + 1 := by unfold x1; rw [if_pos (by omega)]
 have xb : x1 (2 * j + 1) = 2 * j := by unfold x1; rw [if_neg (by omega)]; omega
 by_cases a : S (G.TO (2 * j + 1)) <;> by_cases b : S (G.TO (2 * j))
 ·rw [ind_t a, ind_t b]; simp
 ·rw [ind_t a, ind_f b]
  have : L (2 * j) = 0 := by
   refine Classical.byContradiction fun hn => b (hc.cl (2 * j) (by omega) (by omega) (by rw [xa]; exact a) (by omega))
  rw [show L (2 * j + 1) = G.CP j by omega, Int.one_mul]
 ·rw [ind_f a, ind_t b]
  have : L (2 * j + 1) = 0 := by
   refine Classical.byContradiction fun hn => a (hc.cl (2 * j + 1) (by omega) (by omega) (by rw [xb]; exact b) (by omega))
  rw [this]; simp
 ·rw [ind_f a, ind_f b]; simp
end Net
end Go.Proofs.YtbepolognfdkeaaGreat
