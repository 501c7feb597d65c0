import Derived.Test.YtlldeifbfpmbaaaGreatFbC
set_option maxRecDepth 100000
namespace Go.Proofs.YtlldeifbfpmbaaaGreat
noncomputable def ind (p : Prop) : Int := @ite _ p (Classical.propDecidable p) 1 0
theorem ind_t {p : Prop} (h : p) : ind p = 1 := by unfold ind; rw [if_pos h]
theorem ind_f {p : Prop} (h : ¬ p) : ind p = 0 := by unfold ind; rw [if_neg h]
theorem ind_rng (p : Prop) : 0 ≤ ind p ∧ ind p ≤ 1 := by
 by_cases h : p
 ·rw [ind_t h]; omega
 ·rw [ind_f h]; omega
theorem ind_congr {p q : Prop} (h : p ↔ q) : ind p = ind q := by
 by_cases c : p
 ·rw [ind_t c, ind_t (h.1 c)]
 ·rw [ind_f c, ind_f fun x => c (h.2 x)]
theorem ind_and {p q : Prop} : ind (p ∧ q) = ind p * ind q := by
 by_cases c : p
 ·rw [ind_t c, Int.one_mul]; exact ind_congr ⟨And.right, fun h => ⟨c, h⟩⟩
 ·rw [ind_f c, Int.zero_mul]; exact ind_f fun h => c h.1
theorem sm_span {a b : Int} {T : Int} (a0 : 0 ≤ a) (hT : b ≤ T) : sm (fun h => ind (a ≤ h ∧ h < b)) T = max 0 (b - a) := by
 by_cases hab : b ≤ a
 ·rw [sm_congr (g := fun _ => 0) fun i _ _ => ind_f (by omega)]
  by_cases c : 0 ≤ T
  ·rw [sm_const 0 c]; omega
  ·rw [sm_neg _ (by omega)]; omega
 ·have key : ∀ n : Nat, sm (fun h => ind (a ≤ h ∧ h < b)) n = max 0 (min b n - a) := by
   intro n
   induction n with
   | zero => rw [show ((0 : Nat) : Int) = 0 from rfl, sm_zero]; omega
   | succ n ih =>
    rw [show ((n + 1 : Nat) : Int) = (n : Int) + 1 by omega, sm_succ _ (by omega), ih]
    by_cases c : a ≤ n ∧ (n : Int) < b
    ·rw [ind_t c]; omega
    ·rw [ind_f c]; omega
  have e := key T.toNat
  rw [Int.toNat_of_nonneg (by omega)] at e
  rw [e]; omega
structure Lds where
 n : Nat
 r : Int → Int
 d : Int → Int
 len : Int → Int
 wo : Int → Int
namespace Lds
structure Fit (l : Lds) (M : Int) : Prop where
 r0 : ∀ i : Int, 0 ≤ i → i < l.n → 0 ≤ l.r i
 rd : ∀ i : Int, 0 ≤ i → i < l.n → l.r i < l.d i
 dM : ∀ i : Int, 0 ≤ i → i < l.n → l.d i ≤ M
 len1 : ∀ i : Int, 0 ≤ i → i < l.n → 1 ≤ l.len i
 len2 : ∀ i : Int, 0 ≤ i → i < l.n → l.len i ≤ l.d i - l.r i
theorem Fit.mono {l : Lds} {M M' : Int} (h : l.Fit M) (hM : M ≤ M') : l.Fit M' := ⟨h.r0, h.rd, fun i i0 i1 => Int.le_trans (h.dM i i0 i1) hM, h.len1, h.len2⟩
structure Sched (l : Lds) (T k : Int) (x : Int → Int → Int) : Prop where
 r01 : ∀ i h : Int, 0 ≤ i → i < l.n → 0 ≤ x i h ∧ x i h ≤ 1
 win : ∀ i h : Int, 0 ≤ i → i < l.n → x i h ≠ 0 → l.r i ≤ h ∧ h < l.d i
 sum : ∀ i : Int, 0 ≤ i → i < l.n → sm (x i) T = l.len i
 most : ∀ h : Int, 0 ≤ h → h < T → sm (fun i => x i h) l.n ≤ k
noncomputable def outs (l : Lds) (T : Int) (y : Int → Int) (i : Int) : Int := sm (fun h => ind (l.r i ≤ h ∧ h < l.d i) * (1 - y h)) T
noncomputable def need (l : Lds) (T : Int) (c y : Int → Int) : Int := sm (fun i => c i * max 0 (l.len i - l.outs T y i)) l.n
structure Crush (l : Lds) (T k : Int) (c y : Int → Int) : Prop where
 c01 : ∀ i : Int, 0 ≤ i → i < l.n → 0 ≤ c i ∧ c i ≤ 1
 y01 : ∀ h : Int, 0 ≤ h → h < T → 0 ≤ y h ∧ y h ≤ 1
 big : k * sm y T < l.need T c y
theorem Sched.no_crush {l : Lds} {T k : Int} {x : Int → Int → Int} {c y : Int → Int} (h : l.Sched T k x) (hc : l.Crush T k c y) : False := by
 have h1 : l.need T c y ≤ sm (fun i => sm (fun t => x i t * y t) T) l.n := sm_le fun i i0 i1 => by
  have hx : sm (fun t => x i t * y t) T ≥ l.len i - l.outs T y i := by
   have e : sm (fun t => x i t * y t) T = sm (x i) T - sm (fun t => x i t * (1 - y t)) T := by
    rw [← sm_sub]
    exact sm_congr fun t _ _ => by rw [Int.mul_sub, Int.mul_one]; omega
   have e2 : sm (fun t => x i t * (1 - y t)) T ≤ l.outs T y i := sm_le fun t t0 t1 => by
    have h01 := h.r01 i t i0 i1
    have hy := hc.y01 t t0 t1
    by_cases cw : x i t = 0
    ·rw [cw, Int.zero_mul]; exact Int.mul_nonneg (ind_rng _).1 (by omega)
    ·rw [ind_t (h.win i t i0 i1 cw), show x i t = 1 by omega]
     exact Int.le_refl _
   rw [e, h.sum i i0 i1]; omega
  have hn : 0 ≤ sm (fun t => x i t * y t) T := sm_nonneg fun t t0 t1 => Int.mul_nonneg (h.r01 i t i0 i1).1 (hc.y01 t t0 t1).1
  have hci := hc.c01 i i0 i1
  have hm : max 0 (l.len i - l.outs T y i) ≤ sm (fun t => x i t * y t) T := by omega
  have : c i = 0 ∨ c i = 1 := by omega
  rcases this with e | e
  ·rw [e, Int.zero_mul]; exact hn
  ·rw [e, Int.one_mul]; exact hm
 rw [sm_swap] at h1
 have h2 : sm (fun t => sm (fun i => x i t * y t) l.n) T ≤ sm (fun t => k * y t) T := sm_le fun t t0 t1 => by
  have e : sm (fun i => x i t * y t) l.n = y t * sm (fun i => x i t) l.n := by
   rw [← sm_mul]; exact sm_congr fun i _ _ => Int.mul_comm _ _
  rw [e, Int.mul_comm k]
  exact Int.mul_le_mul_of_nonneg_left (h.most t t0 t1) (hc.y01 t t0 t1).1
 rw [sm_mul] at h2
 have := hc.big
 omega
theorem Crush.fewer {l : Lds} {T k k' : Int} {c y : Int → Int} (h : l.Crush T k c y) (hk : k' ≤ k) : l.Crush T k' c y :=
 ⟨h.c01, h.y01, Int.lt_of_le_of_lt (Int.mul_le_mul_of_nonneg_right hk (sm_nonneg fun t t0 t1 => (h.y01 t t0 t1).1)) h.big⟩
theorem Crush.lt_n {l : Lds} {T k : Int} {c y : Int → Int} (hl : l.Fit T) (h : l.Crush T k c y) : k < l.n := by
 refine Classical.byContradiction fun hk => ?_
 have h1 : l.need T c y ≤ sm (fun _ => sm y T) l.n := sm_le fun i i0 i1 => by
  have hy0 : 0 ≤ sm y T := sm_nonneg fun t t0 t1 => (h.y01 t t0 t1).1
  have e : l.outs T y i = (l.d i - l.r i) - sm (fun t => ind (l.r i ≤ t ∧ t < l.d i) * y t) T := by
   have e1 : sm (fun t => ind (l.r i ≤ t ∧ t < l.d i)) T = l.d i - l.r i := by
    rw [sm_span (hl.r0 i i0 i1) (hl.dM i i0 i1)]
    have := hl.rd i i0 i1
    omega
   rw [← e1, ← sm_sub]
   exact sm_congr fun t _ _ => by rw [Int.mul_sub, Int.mul_one]
  have e2 : sm (fun t => ind (l.r i ≤ t ∧ t < l.d i) * y t) T ≤ sm y T := sm_le fun t t0 t1 => by
   have hy := h.y01 t t0 t1
   have hi := ind_rng (l.r i ≤ t ∧ t < l.d i)
   have := Int.mul_le_mul_of_nonneg_right hi.2 hy.1
   rw [Int.one_mul] at this
   exact this
  have hm : max 0 (l.len i - l.outs T y i) ≤ sm y T := by
   have := hl.len2 i i0 i1
   omega
  have hci := h.c01 i i0 i1
  have : c i = 0 ∨ c i = 1 := by omega
  rcases this with e | e
  ·rw [e, Int.zero_mul]; exact hy0
  ·rw [e, Int.one_mul]; exact hm
 rw [sm_const _ (by omega)] at h1
 have hy0 : 0 ≤ sm y T := sm_nonneg fun t t0 t1 => (h.y01 t t0 t1).1
 have := Int.mul_le_mul_of_nonneg_right (show (l.n : Int) ≤ k by omega) hy0
 have := h.big
 omega
theorem Crush.short {l : Lds} {T k D : Int} {c y : Int → Int} (hl : l.Fit T) (hk : 1 ≤ k) (hD : sm l.len l.n ≤ D) (hw : ∀ i : Int, 0 ≤ i → i < l.n → l.len i + D ≤ l.d i - l.r i) (h : l.Crush T k c y) : False := by
 have hy0 : 0 ≤ sm y T := sm_nonneg fun t t0 t1 => (h.y01 t t0 t1).1
 have hb := h.big
 have hky : sm y T ≤ k * sm y T := by
  have := Int.mul_le_mul_of_nonneg_right hk hy0
  rw [Int.one_mul] at this
  exact this
 by_cases cy : D ≤ sm y T
 ·have h1 : l.need T c y ≤ sm l.len l.n := sm_le fun i i0 i1 => by
   have ho : 0 ≤ l.outs T y i := sm_nonneg fun t t0 t1 => Int.mul_nonneg (ind_rng _).1 (by have := h.y01 t t0 t1; omega)
   have hm : max 0 (l.len i - l.outs T y i) ≤ l.len i := by have := hl.len1 i i0 i1; omega
   have hm0 : 0 ≤ max 0 (l.len i - l.outs T y i) := by omega
   have hci := h.c01 i i0 i1
   have : c i = 0 ∨ c i = 1 := by omega
   rcases this with e | e
   ·rw [e, Int.zero_mul]; have := hl.len1 i i0 i1; omega
   ·rw [e, Int.one_mul]; exact hm
  omega
 ·have h1 : l.need T c y ≤ sm (fun _ => 0) l.n := sm_le fun i i0 i1 => by
   have e : l.outs T y i = (l.d i - l.r i) - sm (fun t => ind (l.r i ≤ t ∧ t < l.d i) * y t) T := by
    have e1 : sm (fun t => ind (l.r i ≤ t ∧ t < l.d i)) T = l.d i - l.r i := by
     rw [sm_span (hl.r0 i i0 i1) (hl.dM i i0 i1)]
     have := hl.rd i i0 i1
     omega
    rw [← e1, ← sm_sub]
    exact sm_congr fun t _ _ => by rw [Int.mul_sub, Int.mul_one]
   have e2 : sm (fun t => ind (l.r i ≤ t ∧ t < l.d i) * y t) T ≤ sm y T := sm_le fun t t0 t1 => by
    have hy := h.y01 t t0 t1
    have hi := ind_rng (l.r i ≤ t ∧ t < l.d i)
    have := Int.mul_le_mul_of_nonneg_right hi.2 hy.1
    rw [Int.one_mul] at this
    exact this
   have hw2 := hw i i0 i1
   have hm : max 0 (l.len i - l.outs T y i) = 0 := by omega
   rw [hm, Int.mul_zero]
   exact Int.le_refl _
  rw [sm_const 0 (by omega)] at h1
  omega
end Lds
end Go.Proofs.YtlldeifbfpmbaaaGreat
set_option maxRecDepth 100000
namespace Go.Proofs.YtlldeifbfpmbaaaGreat
theorem sm_oneG {k x : Int} (x0 : 0 ≤ x) (x1 : x < k) (c : Int) : sm (fun i => if x = i then c else 0) k = c := by
 have e : (fun i => if x = i then c else 0) = upd (fun _ => 0) x c := by
  funext i
  unfold upd
  by_cases h : i = x
  ·rw [if_pos h.symm, if_pos h]
  ·rw [if_neg h, if_neg fun e => h e.symm]
 rw [e, sm_upd _ _ _ x0 x1, sm_const 0 (by omega)]
 omega
theorem sm_zeroG {f : Int → Int} {k : Int} (h : ∀ i : Int, 0 ≤ i → i < k → f i = 0) : sm f k = 0 := by
 rw [sm_congr (g := fun _ => 0) h]
 by_cases k0 : 0 ≤ k
 ·rw [sm_const 0 k0]; omega
 ·exact sm_neg _ (by omega)
theorem sm_uniG {p : Int → Prop} [∀ i, Decidable (p i)] {n : Int} (h : ∀ i j : Int, 0 ≤ i → i < n → 0 ≤ j → j < n → p i → p j → i = j) : sm (fun i => if p i then 1 else 0) n ≤ 1 := by
 by_cases c : ∃ i : Int, 0 ≤ i ∧ i < n ∧ p i
 ·obtain ⟨i, i0, i1, hi⟩ := c
  have e : sm (fun i => if p i then 1 else 0) n = sm (fun j => if i = j then 1 else 0) n := sm_congr fun j j0 j1 => by
   by_cases e : i = j
   ·rw [if_pos e, ← e, if_pos hi]
   ·rw [if_neg e, if_neg fun hj => e (h i j i0 i1 j0 j1 hi hj)]
  rw [e, sm_oneG i0 i1]
  omega
 ·rw [sm_zeroG fun i i0 i1 => if_neg fun hi => c ⟨i, i0, i1, hi⟩]
  omega
theorem pigeonG {e : Int → Int} {n m : Nat} (hr : ∀ k : Int, 0 ≤ k → k < n → 0 ≤ e k ∧ e k < m) (hd : ∀ a b : Int, 0 ≤ a → a < n → 0 ≤ b → b < n → e a = e b → a = b) : n ≤ m := by
 have h1 : sm (fun k => sm (fun b => if e k = b then 1 else 0) m) n = n := by
  rw [sm_congr (g := fun _ => 1) fun k k0 k1 => sm_oneG (hr k k0 k1).1 (hr k k0 k1).2 1, sm_const 1 (by omega)]
  omega
 rw [sm_swap] at h1
 have h2 : sm (fun b => sm (fun k => if e k = b then 1 else 0) n) m ≤ m * 1 := sm_bound 1 (by omega) fun b _ _ => sm_uniG fun i j i0 i1 j0 j1 h1 h2 => hd i j i0 i1 j0 j1 (h1.trans h2.symm)
 omega
end Go.Proofs.YtlldeifbfpmbaaaGreat
set_option maxRecDepth 100000
namespace Go.Proofs.YtlldeifbfpmbaaaGreat
theorem sm_one1 {f : Int → Int} {k a : Int} (a0 : 0 ≤ a) (a1 : a < k) (h : ∀ i : Int, 0 ≤ i → i < k → i ≠ a → f i = 0) : sm f k = f a := by
 have e : sm f k = sm (fun i => if a = i then f a else 0) k := sm_congr fun i i0 i1 => by
  by_cases c : a = i
  ·rw [if_pos c, c]
  ·rw [if_neg c]; exact h i i0 i1 (fun e => c e.symm)
 rw [e, sm_oneG a0 a1]
end Go.Proofs.YtlldeifbfpmbaaaGreat
