import Derived.Test.YtbepolognfdkeaaOps
namespace Go.Proofs.Ytbepolognfdkeaa
def sumTo (f : Int → Int) : Nat → Int
 | 0 => 0
 | n + 1 => sumTo f n + f n
def sm (f : Int → Int) (k : Int) : Int := sumTo f k.toNat
theorem sm_zero (f : Int → Int) : sm f 0 = 0 := rfl
theorem sm_neg (f : Int → Int) {k : Int} (h : k ≤ 0) : sm f k = 0 := by
 unfold sm; rw [show k.toNat = 0 by omega]; rfl
theorem sm_succ (f : Int → Int) {k : Int} (h : 0 ≤ k) : sm f (k + 1) = sm f k + f k := by
 unfold sm
 rw [show (k + 1).toNat = k.toNat + 1 by omega]
 simp only [sumTo, Int.toNat_of_nonneg h]
theorem sm_ind {f : Int → Int} {p : Int → Int → Prop} (h0 : p 0 0) (hs : ∀ k : Int, 0 ≤ k → ∀ s, p k s → p (k + 1) (s + f k)) {k : Int} (hk : 0 ≤ k) : p k (sm f k) := by
 obtain ⟨n, rfl⟩ := Int.eq_ofNat_of_zero_le hk
 induction n with
 | zero => exact h0
 | succ n ih =>
  have e : ((n + 1 : Nat) : Int) = (n : Int) + 1 := by omega
  rw [e, sm_succ f (by omega)]
  exact hs n (by omega) _ (ih (by omega))
theorem sm_congr {f g : Int → Int} {k : Int} (h : ∀ i : Int, 0 ≤ i → i < k → f i = g i) : sm f k = sm g k := by
 unfold sm
 have key : ∀ n : Nat, (n : Int) ≤ k → sumTo f n = sumTo g n := by
  intro n
  induction n with
  | zero => intro _; rfl
  | succ n ih => intro hn; simp only [sumTo]; rw [ih (by omega), h n (by omega) (by omega)]
 by_cases hk : 0 ≤ k
 ·exact key _ (by omega)
 ·rw [show k.toNat = 0 by omega]; rfl
theorem sm_le {f g : Int → Int} {k : Int} (h : ∀ i : Int, 0 ≤ i → i < k → f i ≤ g i) : sm f k ≤ sm g k := by
 unfold sm
 have key : ∀ n : Nat, (n : Int) ≤ k → sumTo f n ≤ sumTo g n := by
  intro n
  induction n with
  | zero => intro _; exact Int.le_refl _
  | succ n ih => intro hn; simp only [sumTo]; have := ih (by omega); have := h n (by omega) (by omega); omega
 by_cases hk : 0 ≤ k
 ·exact key _ (by omega)
 ·rw [show k.toNat = 0 by omega]; exact Int.le_refl _
theorem sm_const (c : Int) {k : Int} (hk : 0 ≤ k) : sm (fun _ => c) k = k * c := by
 obtain ⟨n, rfl⟩ := Int.eq_ofNat_of_zero_le hk
 induction n with
 | zero => simp [sm, sumTo]
 | succ n ih =>
  have e : ((n + 1 : Nat) : Int) = (n : Int) + 1 := by omega
  rw [e, sm_succ _ (by omega), ih (by omega), Int.add_mul, Int.one_mul]
theorem sm_bound {f : Int → Int} {k : Int} (M : Int) (hk : 0 ≤ k) (h : ∀ i : Int, 0 ≤ i → i < k → f i ≤ M) : sm f k ≤ k * M := by
 rw [← sm_const M hk]; exact sm_le h
theorem sm_bound' {f : Int → Int} {k : Int} (M : Int) (hk : 0 ≤ k) (h : ∀ i : Int, 0 ≤ i → i < k → M ≤ f i) : k * M ≤ sm f k := by
 rw [← sm_const M hk]; exact sm_le h
theorem sm_nonneg {f : Int → Int} {k : Int} (h : ∀ i : Int, 0 ≤ i → i < k → 0 ≤ f i) : 0 ≤ sm f k := by
 by_cases hk : 0 ≤ k
 ·have := sm_bound' 0 hk h; simpa using this
 ·rw [sm_neg f (by omega)]; exact Int.le_refl _
theorem sm_add (f g : Int → Int) (k : Int) : sm (fun i => f i + g i) k = sm f k + sm g k := by
 unfold sm
 induction k.toNat with
 | zero => rfl
 | succ n ih => simp only [sumTo]; omega
theorem sm_sub (f g : Int → Int) (k : Int) : sm (fun i => f i - g i) k = sm f k - sm g k := by
 unfold sm
 induction k.toNat with
 | zero => rfl
 | succ n ih => simp only [sumTo]; omega
theorem sm_mul (c : Int) (f : Int → Int) (k : Int) : sm (fun i => c * f i) k = c * sm f k := by
 unfold sm
 induction k.toNat with
 | zero => simp [sumTo]
 | succ n ih => simp only [sumTo]; rw [ih, Int.mul_add]
theorem sm_swap (f : Int → Int → Int) (n m : Int) : sm (fun i => sm (fun j => f i j) m) n = sm (fun j => sm (fun i => f i j) n) m := by
 unfold sm
 induction n.toNat with
 | zero =>
  simp only [sumTo]
  induction m.toNat with
  | zero => rfl
  | succ m ih => simp only [sumTo]; omega
 | succ n ih =>
  simp only [sumTo]
  rw [ih]
  induction m.toNat with
  | zero => rfl
  | succ m ih2 =>
   simp only [sumTo]
   omega
theorem sm_upd (f : Int → Int) (i x : Int) {k : Int} (h0 : 0 ≤ i) (hi : i < k) : sm (upd f i x) k = sm f k - f i + x := by
 obtain ⟨n, rfl⟩ := Int.eq_ofNat_of_zero_le (show 0 ≤ k by omega)
 induction n with
 | zero => omega
 | succ n ih =>
  have e : ((n + 1 : Nat) : Int) = (n : Int) + 1 := by omega
  rw [e, sm_succ _ (by omega), sm_succ _ (by omega)]
  by_cases hin : i < n
  ·rw [ih hin, upd_ne _ _ (by omega)]; omega
  ·have : i = n := by omega
   subst this
   rw [upd_same, sm_congr (g := f) (fun j _ hj => upd_ne _ _ (by omega))]; omega
theorem sm_pos {f : Int → Int} {k : Int} (h : ∀ i : Int, 0 ≤ i → i < k → 0 ≤ f i) (i : Int) (h0 : 0 ≤ i) (hi : i < k) : f i ≤ sm f k := by
 have e := sm_upd f i 0 h0 hi
 have : 0 ≤ sm (upd f i 0) k := sm_nonneg fun j a b => by
  unfold upd; split
  ·exact Int.le_refl _
  ·exact h j a b
 omega
theorem mulb {a b A B : Int} (ha : 0 ≤ a) (ha2 : a ≤ A) (hb : 0 ≤ b) (hb2 : b ≤ B) : 0 ≤ a * b ∧ a * b ≤ A * B :=
 ⟨Int.mul_nonneg ha hb, Int.mul_le_mul ha2 hb2 hb (by omega)⟩
end Go.Proofs.Ytbepolognfdkeaa
set_option maxRecDepth 100000
namespace Go.Proofs.Ytbepolognfdkeaa
noncomputable def ind (p : Prop) : Int := @ite _ p (Classical.propDecidable p) 1 0
theorem ind_t {p : Prop} (h : p) : ind p = 1 := by unfold ind; rw [if_pos h]
theorem ind_f {p : Prop} (h : ¬ p) : ind p = 0 := by unfold ind; rw [if_neg h]
theorem ind_rng (p : Prop) : 0 ≤ ind p ∧ ind p ≤ 1 := by
 by_cases h : p
 ·rw [ind_t h]; omega
 ·rw [ind_f h]; omega
theorem ind_congr {p q : Prop} (h : p ↔ q) : ind p = ind q := by
 by_cases c : p
 ·rw [ind_t c, ind_t (h.1 c)]
 ·rw [ind_f c, ind_f fun x => c (h.2 x)]
theorem ind_and {p q : Prop} : ind (p ∧ q) = ind p * ind q := by
 by_cases c : p
 ·rw [ind_t c, Int.one_mul]; exact ind_congr ⟨And.right, fun h => ⟨c, h⟩⟩
 ·rw [ind_f c, Int.zero_mul]; exact ind_f fun h => c h.1
theorem sm_span {a b : Int} {T : Int} (a0 : 0 ≤ a) (hT : b ≤ T) : sm (fun h => ind (a ≤ h ∧ h < b)) T = max 0 (b - a) := by
 by_cases hab : b ≤ a
 ·rw [sm_congr (g := fun _ => 0) fun i _ _ => ind_f (by omega)]
  by_cases c : 0 ≤ T
  ·rw [sm_const 0 c]; omega
  ·rw [sm_neg _ (by omega)]; omega
 ·have key : ∀ n : Nat, sm (fun h => ind (a ≤ h ∧ h < b)) n = max 0 (min b n - a) := by
   intro n
   induction n with
   | zero => rw [show ((0 : Nat) : Int) = 0 from rfl, sm_zero]; omega
   | succ n ih =>
    rw [show ((n + 1 : Nat) : Int) = (n : Int) + 1 by omega, sm_succ _ (by omega), ih]
    by_cases c : a ≤ n ∧ (n : Int) < b
    ·rw [ind_t c]; omega
    ·rw [ind_f c]; omega
  have e := key T.toNat
  rw [Int.toNat_of_nonneg (by omega)] at e
  rw [e]; omega
structure Lds where
 n : Nat
 r : Int → Int
 d : Int → Int
 len : Int → Int
 wo : Int → Int
namespace Lds
structure Fit (l : Lds) (M : Int) : Prop where
 r0 : ∀ i : Int, 0 ≤ i → i < l.n → 0 ≤ l.r i
 rd : ∀ i : Int, 0 ≤ i → i < l.n → l.r i < l.d i
 dM : ∀ i : Int, 0 ≤ i → i < l.n → l.d i ≤ M
 len1 : ∀ i : Int, 0 ≤ i → i < l.n → 1 ≤ l.len i
 len2 : ∀ i : Int, 0 ≤ i → i < l.n → l.len i ≤ l.d i - l.r i
theorem Fit.mono {l : Lds} {M M' : Int} (h : l.Fit M) (hM : M ≤ M') : l.Fit M' := ⟨h.r0, h.rd, fun i i0 i1 => Int.le_trans (h.dM i i0 i1) hM, h.len1, h.len2⟩
structure Sched (l : Lds) (T k : Int) (x : Int → Int → Int) : Prop where
 r01 : ∀ i h : Int, 0 ≤ i → i < l.n → 0 ≤ x i h ∧ x i h ≤ 1
 win : ∀ i h : Int, 0 ≤ i → i < l.n → x i h ≠ 0 → l.r i ≤ h ∧ h < l.d i
 sum : ∀ i : Int, 0 ≤ i → i < l.n → sm (x i) T = l.len i
 most : ∀ h : Int, 0 ≤ h → h < T → sm (fun i => x i h) l.n ≤ k
noncomputable def outs (l : Lds) (T : Int) (y : Int → Int) (i : Int) : Int := sm (fun h => ind (l.r i ≤ h ∧ h < l.d i) * (1 - y h)) T
noncomputable def need (l : Lds) (T : Int) (c y : Int → Int) : Int := sm (fun i => c i * max 0 (l.len i - l.outs T y i)) l.n
structure Crush (l : Lds) (T k : Int) (c y : Int → Int) : Prop where
 c01 : ∀ i : Int, 0 ≤ i → i < l.n → 0 ≤ c i ∧ c i ≤ 1
 y01 : ∀ h : Int, 0 ≤ h → h < T → 0 ≤ y h ∧ y h ≤ 1
 big : k * sm y T < l.need T c y
theorem Sched.no_crush {l : Lds} {T k : Int} {x : Int → Int → Int} {c y : Int → Int} (h : l.Sched T k x) (hc : l.Crush T k c y) : False := by
 have h1 : l.need T c y ≤ sm (fun i => sm (fun t => x i t * y t) T) l.n := sm_le fun i i0 i1 => by
  have hx : sm (fun t => x i t * y t) T ≥ l.len i - l.outs T y i := by
   have e : sm (fun t => x i t * y t) T = sm (x i) T - sm (fun t => x i t * (1 - y t)) T := by
    rw [← sm_sub]
    exact sm_congr fun t _ _ => by rw [Int.mul_sub, Int.mul_one]; omega
   have e2 : sm (fun t => x i t * (1 - y t)) T ≤ l.outs T y i := sm_le fun t t0 t1 => by
    have h01 := h.r01 i t i0 i1
    have hy := hc.y01 t t0 t1
    by_cases cw : x i t = 0
    ·rw [cw, Int.zero_mul]; exact Int.mul_nonneg (ind_rng _).1 (by omega)
    ·rw [ind_t (h.win i t i0 i1 cw), show x i t = 1 by omega]
     exact Int.le_refl _
   rw [e, h.sum i i0 i1]; omega
  have hn : 0 ≤ sm (fun t => x i t * y t) T := sm_nonneg fun t t0 t1 => Int.mul_nonneg (h.r01 i t i0 i1).1 (hc.y01 t t0 t1).1
  have hci := hc.c01 i i0 i1
  have hm : max 0 (l.len i - l.outs T y i) ≤ sm (fun t => x i t * y t) T := by omega
  have : c i = 0 ∨ c i = 1 := by omega
  rcases this with e | e
  ·rw [e, Int.zero_mul]; exact hn
  ·rw [e, Int.one_mul]; exact hm
 rw [sm_swap] at h1
 have h2 : sm (fun t => sm (fun i => x i t * y t) l.n) T ≤ sm (fun t => k * y t) T := sm_le fun t t0 t1 => by
  have e : sm (fun i => x i t * y t) l.n = y t * sm (fun i => x i t) l.n := by
   rw [← sm_mul]; exact sm_congr fun i _ _ => Int.mul_comm _ _
  rw [e, Int.mul_comm k]
  exact Int.mul_le_mul_of_nonneg_left (h.most t t0 t1) (hc.y01 t t0 t1).1
 rw [sm_mul] at h2
 have := hc.big
 omega
theorem Crush.lt_n {l : Lds} {T k : Int} {c y : Int → Int} (hl : l.Fit T) (h : l.Crush T k c y) : k < l.n := by
 refine Classical.byContradiction fun hk => ?_
 have h1 : l.need T c y ≤ sm (fun _ => sm y T) l.n := sm_le fun i i0 i1 => by
  have hy0 : 0 ≤ sm y T := sm_nonneg fun t t0 t1 => (h.y01 t t0 t1).1
  have e : l.outs T y i = (l.d i - l.r i) - sm (fun t => ind (l.r i ≤ t ∧ t < l.d i) * y t) T := by
   have e1 : sm (fun t => ind (l.r i ≤ t ∧ t < l.d i)) T = l.d i - l.r i := by
    rw [sm_span (hl.r0 i i0 i1) (hl.dM i i0 i1)]
    have := hl.rd i i0 i1
    omega
   rw [← e1, ← sm_sub]
   exact sm_congr fun t _ _ => by rw [Int.mul_sub, Int.mul_one]
  have e2 : sm (fun t => ind (l.r i ≤ t ∧ t < l.d i) * y t) T ≤ sm y T := sm_le fun t t0 t1 => by
   have hy := h.y01 t t0 t1
   have hi := ind_rng (l.r i ≤ t ∧ t < l.d i)
   have := Int.mul_le_mul_of_nonneg_right hi.2 hy.1
   rw [Int.one_mul] at this
   exact this
  have hm : max 0 (l.len i - l.outs T y i) ≤ sm y T := by
   have := hl.len2 i i0 i1
   omega
  have hci := h.c01 i i0 i1
  have : c i = 0 ∨ c i = 1 := by omega
  rcases this with e | e
  ·rw [e, Int.zero_mul]; exact hy0
  ·rw [e, Int.one_mul]; exact hm
 rw [sm_const _ (by omega)] at h1
 have hy0 : 0 ≤ sm y T := sm_nonneg fun t t0 t1 => (h.y01 t t0 t1).1
 have := Int.mul_le_mul_of_nonneg_right (show (l.n : Int) ≤ k by omega) hy0
 have := h.big
 omega
end Lds
end Go.Proofs.Ytbepolognfdkeaa
