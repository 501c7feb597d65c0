import Derived.Test.YtbcjfjldmfljgaaGreatPrw
import Derived.Test.YtbcjfjldmfljgaaGreatFdA
import Derived.Test.YtbcjfjldmfljgaaGreatFbC
set_option maxRecDepth 100000
namespace Go.Proofs.YtbcjfjldmfljgaaGreat
open Go.RowKit Go.Proofs Go.MapKept
def cnk (l : Int → Int) (k b : Int) : Int := sm (fun g => if l g = b then 1 else 0) k
end Go.Proofs.YtbcjfjldmfljgaaGreat
set_option maxRecDepth 100000
namespace Go.Proofs.YtbcjfjldmfljgaaGreat
open Go.RowKit Go.Proofs
theorem cnk_upd {of : Int → Int} {n k x b : Int} (k0 : 0 ≤ k) (k1 : k < n) : cnk (upd of k x) n b = cnk of n b - (if of k = b then 1 else 0) + (if x = b then 1 else 0) := by
 unfold cnk
 have e : (fun i => if upd of k x i = b then (1 : Int) else 0) = upd (fun i => if of i = b then 1 else 0) k (if x = b then 1 else 0) := by
  funext i
  unfold upd
  by_cases c : i = k
  ·rw [if_pos c, if_pos c]
  ·rw [if_neg c, if_neg c]
 rw [e, sm_upd _ _ _ k0 k1]
def uns (seen : Int → Bool) (n : Int) : Int := sm (fun k => if seen k = true then 0 else 1) n
theorem uns_nonneg (seen : Int → Bool) (n : Int) : 0 ≤ uns seen n := sm_nonneg fun k _ _ => by split <;> omega
theorem uns_mark {seen : Int → Bool} {n k : Int} (k0 : 0 ≤ k) (k1 : k < n) (h : seen k = false) : uns (upd seen k true) n = uns seen n - 1 := by
 unfold uns
 have e : (fun i => if upd seen k true i = true then (0 : Int) else 1) = upd (fun i => if seen i = true then 0 else 1) k 0 := by
  funext i
  unfold upd
  by_cases c : i = k
  ·rw [if_pos c, if_pos c]; rfl
  ·rw [if_neg c, if_neg c]
 rw [e, sm_upd _ _ _ k0 k1, if_neg (by rw [h]; exact fun h => Bool.noConfusion h)]
 omega
theorem uns_le {s s' : Int → Bool} {n : Int} (h : ∀ k : Int, 0 ≤ k → k < n → s k = true → s' k = true) : uns s' n ≤ uns s n := sm_le fun k k0 k1 => by
 by_cases c : s k = true
 ·rw [if_pos c, if_pos (h k k0 k1 c)]; exact Int.le_refl _
 ·rw [if_neg c]; split <;> omega
structure KL (n : Int) (op : Int → Int → Prop) (of : Int → Int) (s0 s : Int → Bool) : Prop where
 sub : ∀ k : Int, 0 ≤ k → k < n → s0 k = true → s k = true
 cl : ∀ k : Int, 0 ≤ k → k < n → s k = true → s0 k = true ∨ 0 ≤ of k ∧ ∀ j : Int, 0 ≤ j → j < n → op (of k) j → s j = true
theorem KL.refl (n : Int) (op : Int → Int → Prop) (of : Int → Int) (s : Int → Bool) : KL n op of s s := ⟨fun _ _ _ h => h, fun _ _ _ h => .inl h⟩
structure KF (n : Int) (op : Int → Int → Prop) (i : Int) (of : Int → Int) (s0 s : Int → Bool) : Prop where
 l : KL n op of s0 s
 all : ∀ j : Int, 0 ≤ j → j < n → op i j → s j = true
structure KS (n : Int) (op : Int → Int → Prop) (i : Int) (of : Int → Int) (s0 : Int → Bool) (of' : Int → Int) : Prop where
 ok : ∀ k : Int, 0 ≤ k → k < n → 0 ≤ of' k → op (of' k) k
 cnt : ∀ x : Int, 0 ≤ x → cnk of' n x = cnk of n x + if x = i then 1 else 0
 old : ∀ k : Int, 0 ≤ k → k < n → s0 k = true → of' k = of k
 rng : ∀ k : Int, 0 ≤ k → k < n → -1 ≤ of k → -1 ≤ of' k
section
variable {n : Int} {op : Int → Int → Prop} {i : Int} {of : Int → Int} {s0 s : Int → Bool}
theorem KL.step (h : KL n op of s0 s) {k : Int} (_ : 0 ≤ k) (_ : k < n) (ho : 0 ≤ of k) {s2 : Int → Bool} (hf : KF n op (of k) of (upd s k true) s2) : KL n op of s0 s2 := by
 have hs2 : ∀ j : Int, 0 ≤ j → j < n → s j = true → s2 j = true := fun j j0 j1 hj => hf.l.sub j j0 j1 (by unfold upd; split; rfl; exact hj)
 refine ⟨fun j j0 j1 hj => hs2 j j0 j1 (h.sub j j0 j1 hj), fun j j0 j1 hj => ?_⟩
 rcases hf.l.cl j j0 j1 hj with h1 | h1
 ·by_cases c : j = k
  ·right; rw [c]; exact ⟨ho, hf.all⟩
  ·rw [upd_ne _ _ c] at h1
   rcases h.cl j j0 j1 h1 with h2 | ⟨h2, h3⟩
   ·exact .inl h2
   ·exact .inr ⟨h2, fun x x0 x1 hx => hs2 x x0 x1 (h3 x x0 x1 hx)⟩
 ·exact .inr h1
theorem KS.free (hok : ∀ k : Int, 0 ≤ k → k < n → 0 ≤ of k → op (of k) k) (h : KL n op of s0 s) {k : Int} (k0 : 0 ≤ k) (k1 : k < n) (hs : s k = false) (hf : of k < 0) (i0 : 0 ≤ i) (hi : op i k) : KS n op i of s0 (upd of k i) := by
 refine ⟨fun j j0 j1 hj => ?_, fun x x0 => ?_, fun j j0 j1 hj => ?_, fun j j0 j1 hj => ?_⟩
 ·by_cases c : j = k
  ·rw [c, upd_same]; exact hi
  ·rw [upd_ne _ _ c] at hj ⊢; exact hok j j0 j1 hj
 ·rw [cnk_upd k0 k1, if_neg (by omega)]
  by_cases c : x = i
  ·rw [if_pos c, if_pos c.symm]; omega
  ·rw [if_neg c, if_neg fun e => c e.symm]; omega
 ·refine upd_ne _ _ fun c => ?_
  rw [c] at hj
  rw [h.sub k k0 k1 hj] at hs
  exact Bool.noConfusion hs
 ·unfold upd; split
  ·omega
  ·exact hj
theorem KS.push (h : KL n op of s0 s) {k : Int} (k0 : 0 ≤ k) (k1 : k < n) (hs : s k = false) (i0 : 0 ≤ i) (hi : op i k) {of1 : Int → Int} (hS : KS n op (of k) of (upd s k true) of1) : KS n op i of s0 (upd of1 k i) := by
 have hk : of1 k = of k := hS.old k k0 k1 (upd_same _ _ _)
 refine ⟨fun j j0 j1 hj => ?_, fun x x0 => ?_, fun j j0 j1 hj => ?_, fun j j0 j1 hj => ?_⟩
 ·by_cases c : j = k
  ·rw [c, upd_same]; exact hi
  ·rw [upd_ne _ _ c] at hj ⊢; exact hS.ok j j0 j1 hj
 ·rw [cnk_upd k0 k1, hS.cnt x x0, hk]
  have e1 : (if i = x then (1 : Int) else 0) = if x = i then 1 else 0 := by
   by_cases c : x = i
   ·rw [if_pos c, if_pos c.symm]
   ·rw [if_neg c, if_neg (show ¬ i = x from fun e => c e.symm)]
  have e2 : (if of k = x then (1 : Int) else 0) = if x = of k then 1 else 0 := by
   by_cases c : x = of k
   ·rw [if_pos c, if_pos c.symm]
   ·rw [if_neg c, if_neg (show ¬ of k = x from fun e => c e.symm)]
  rw [e1, e2]
  omega
 ·have hjk : j ≠ k := fun c => by
   rw [c] at hj
   rw [h.sub k k0 k1 hj] at hs
   exact Bool.noConfusion hs
  rw [upd_ne _ _ hjk]
  exact hS.old j j0 j1 (by rw [upd_ne _ _ hjk]; exact h.sub j j0 j1 hj)
 ·unfold upd; split
  ·omega
  ·exact hS.rng j j0 j1 hj
end
structure KD (n : Int) (op : Int → Int → Prop) (P : Int → Prop) (of : Int → Int) : Prop where
 ok : ∀ k : Int, 0 ≤ k → k < n → 0 ≤ of k → op (of k) k
 one : ∀ x : Int, 0 ≤ x → P x → cnk of n x = 1
 none : ∀ x : Int, 0 ≤ x → ¬ P x → cnk of n x = 0
theorem KD.init (n : Int) (op : Int → Int → Prop) (of : Int → Int) (h : ∀ k : Int, 0 ≤ k → k < n → of k < 0) : KD n op (fun _ => False) of := by
 refine ⟨fun k k0 k1 hk => by have := h k k0 k1; omega, fun x _ hx => hx.elim, fun x x0 _ => ?_⟩
 unfold cnk
 by_cases n0 : 0 ≤ n
 ·rw [sm_congr (g := fun _ => 0) fun k k0 k1 => if_neg (by have := h k k0 k1; omega), sm_const 0 n0]; omega
 ·exact sm_neg _ (by omega)
theorem KD.step {n : Int} {op : Int → Int → Prop} {P Q : Int → Prop} {of of' : Int → Int} {s0 : Int → Bool} {i : Int} (h : KD n op P of) (hi : ¬ P i) (hS : KS n op i of s0 of') (hQ : ∀ x : Int, 0 ≤ x → (Q x ↔ P x ∨ x = i)) : KD n op Q of' := by
 refine ⟨hS.ok, fun x x0 hx => ?_, fun x x0 hx => ?_⟩
 ·rw [hS.cnt x x0]
  by_cases c : x = i
  ·rw [if_pos c, h.none x x0 (by rw [c]; exact hi)]; omega
  ·rw [if_neg c, h.one x x0 (((hQ x x0).1 hx).elim id fun e => absurd e c)]; omega
 ·rw [hS.cnt x x0, if_neg fun c => hx ((hQ x x0).2 (.inr c)), h.none x x0 fun hp => hx ((hQ x x0).2 (.inl hp))]; omega
theorem cnk_ex {of : Int → Int} {n x : Int} (h : cnk of n x ≠ 0) : ∃ k : Int, (0 ≤ k ∧ k < n) ∧ of k = x := Classical.byContradiction fun hno => h (by
 unfold cnk
 by_cases n0 : 0 ≤ n
 ·rw [sm_congr (g := fun _ => 0) fun k k0 k1 => if_neg fun e => hno ⟨k, ⟨k0, k1⟩, e⟩, sm_const 0 n0]; omega
 ·exact sm_neg _ (by omega))
theorem KD.fail {n : Int} {op : Int → Int → Prop} {P : Int → Prop} {of : Int → Int} {i : Int} {s : Int → Bool} (n0 : 0 ≤ n) (i0 : 0 ≤ i) (h : KD n op P of) (hi : ¬ P i) (hF : KF n op i of (fun _ => false) s) :
  ¬ ∃ σ : Int → Int, (∀ x : Int, 0 ≤ x → (P x ∨ x = i) → (0 ≤ σ x ∧ σ x < n) ∧ op x (σ x)) ∧ ∀ x y : Int, 0 ≤ x → (P x ∨ x = i) → 0 ≤ y → (P y ∨ y = i) → σ x = σ y → x = y := by
 rintro ⟨σ, h1, h2⟩
 have hown : ∀ k : Int, 0 ≤ k → k < n → s k = true → 0 ≤ of k ∧ P (of k) ∧ s (σ (of k)) = true := fun k k0 k1 hk => by
  rcases hF.l.cl k k0 k1 hk with e | ⟨e1, e2⟩
  ·exact Bool.noConfusion e
  ·have hp : P (of k) := Classical.byContradiction fun hn => by
    have h3 := h.none (of k) e1 hn
    have h4 := sm_pos (f := fun j => if of j = of k then (1 : Int) else 0) (k := n) (fun j _ _ => by split <;> omega) k k0 k1
    rw [if_pos rfl] at h4
    unfold cnk at h3
    omega
   have h5 := h1 (of k) e1 (.inl hp)
   exact ⟨e1, hp, e2 _ h5.1.1 h5.1.2 h5.2⟩
 have hsi := h1 i i0 (.inr rfl)
 have hss : s (σ i) = true := hF.all _ hsi.1.1 hsi.1.2 hsi.2
 have hinj : ∀ k j : Int, 0 ≤ k → k < n → s k = true → 0 ≤ j → j < n → s j = true → of k = of j → k = j := fun k j k0 k1 hk j0 j1 hj e => Classical.byContradiction fun hne => by
  obtain ⟨a, b, _⟩ := hown k k0 k1 hk
  have h3 := h.one _ a b
  have h4 := sm_le (f := upd (upd (fun _ => (0 : Int)) k 1) j 1) (g := fun x => if of x = of k then (1 : Int) else 0) (k := n) fun x _ _ => by
   unfold upd
   split
   ·rename_i c; rw [c, if_pos e.symm]; exact Int.le_refl _
   ·split
    ·rename_i c; rw [c, if_pos rfl]; exact Int.le_refl _
    ·show (0 : Int) ≤ _
     split <;> omega
  rw [sm_upd _ _ _ j0 j1, sm_upd _ _ _ k0 k1, upd_ne _ _ (fun c => hne c.symm), sm_const 0 n0] at h4
  unfold cnk at h3
  omega
 have c1 : sm (fun t => sm (fun k => if s k = true ∧ σ (of k) = t then 1 else 0) n) n = sm (fun k => if s k = true then 1 else 0) n := by
  rw [sm_swap]
  refine sm_congr fun k k0 k1 => ?_
  by_cases c : s k = true
  ·obtain ⟨a, b, _⟩ := hown k k0 k1 c
   have h5 := (h1 (of k) a (.inl b)).1
   rw [if_pos c, sm_congr (g := fun t => if σ (of k) = t then 1 else 0) fun t _ _ => by
    by_cases d : σ (of k) = t
    ·rw [if_pos d, if_pos ⟨c, d⟩]
    ·rw [if_neg d, if_neg fun x => d x.2], sm_one h5.1 h5.2]
  ·rw [if_neg c, sm_congr (g := fun _ => 0) fun t _ _ => if_neg fun x => c x.1, sm_const 0 n0]; omega
 have c2 : sm (fun t => sm (fun k => if s k = true ∧ σ (of k) = t then 1 else 0) n) n ≤ sm (upd (fun t => if s t = true then 1 else 0) (σ i) 0) n := sm_le fun t t0 t1 => by
  by_cases c : t = σ i
  ·rw [c, upd_same, sm_congr (g := fun _ => 0) fun k k0 k1 => if_neg fun ⟨x1, x2⟩ => by
    obtain ⟨a, b, _⟩ := hown k k0 k1 x1
    have := h2 _ _ a (.inl b) i0 (.inr rfl) x2
    rw [this] at b
    exact hi b, sm_const 0 n0]
   omega
  ·rw [upd_ne _ _ c]
   by_cases d : s t = true
   ·rw [if_pos d]
    exact sm_atmost n0 fun k j k0 k1 j0 j1 hk hj => hinj k j k0 k1 hk.1 j0 j1 hj.1 (by
     obtain ⟨a, b, _⟩ := hown k k0 k1 hk.1
     obtain ⟨a', b', _⟩ := hown j j0 j1 hj.1
     exact h2 _ _ a (.inl b) a' (.inl b') (hk.2.trans hj.2.symm))
   ·rw [if_neg d, sm_congr (g := fun _ => 0) fun k k0 k1 => if_neg fun ⟨x1, x2⟩ => by
     have := (hown k k0 k1 x1).2.2
     rw [x2] at this
     exact d this, sm_const 0 n0]
    omega
 rw [c1, sm_upd _ _ _ hsi.1.1 hsi.1.2, if_pos hss] at c2
 omega
end Go.Proofs.YtbcjfjldmfljgaaGreat
set_option maxRecDepth 100000
namespace Go.Proofs.YtbcjfjldmfljgaaGreat
noncomputable def ind (p : Prop) : Int := @ite _ p (Classical.propDecidable p) 1 0
theorem ind_t {p : Prop} (h : p) : ind p = 1 := by unfold ind; rw [if_pos h]
theorem ind_f {p : Prop} (h : ¬ p) : ind p = 0 := by unfold ind; rw [if_neg h]
end Go.Proofs.YtbcjfjldmfljgaaGreat
