import Derived.Test.YtbepolognfdkeaaGreatGaH
import Derived.Test.YtbepolognfdkeaaGreatTab
import Derived.Shelf.SlSortCmp.NoneTotal
import Derived.RangeFuncLeaves
import Derived.RangeFuncRecord
import Derived.RangeFuncSeq
import Derived.OrdersIn
import Derived.TacticsIn
set_option maxRecDepth 100000
namespace Go.Proofs.YtbepolognfdkeaaGreat
section
variable {l : Lds} {c : Nat} {X : Int → Int} {M : Int}
theorem Cuts.mono (h : Cuts l c X) {a b : Int} (a0 : 0 ≤ a) (ab : a ≤ b) (b1 : b < c) : X a ≤ X b := by
 by_cases e : a = b
 ·rw [e]; exact Int.le_refl _
 ·exact Int.le_of_lt (h.inc a b a0 (by omega) b1)
theorem Cuts.one (h : Cuts l c X) {a b t : Int} (a0 : 0 ≤ a) (a1 : a < ((c - 1 : Nat) : Int)) (b0 : 0 ≤ b) (b1 : b < ((c - 1 : Nat) : Int)) (ha : X a ≤ t ∧ t < X (a + 1)) (hb : X b ≤ t ∧ t < X (b + 1)) : a = b := by
 rcases Int.lt_trichotomy a b with h1 | h1 | h1
 ·have := h.mono (a := a + 1) (b := b) (by omega) (by omega) (by omega); omega
 ·exact h1
 ·have := h.mono (a := b + 1) (b := a) (by omega) (by omega) (by omega); omega
theorem Cuts.span {p t : Int} (p0 : 0 ≤ p) (hp : X p ≤ t) : ∀ {n : Nat}, p + n < c → t < X (p + n) → ∃ k : Int, (0 ≤ k ∧ k < ((c - 1 : Nat) : Int)) ∧ p ≤ k ∧ k < p + n ∧ X k ≤ t ∧ t < X (k + 1)
 | 0, _, h2 => by rw [show p + ((0 : Nat) : Int) = p by omega] at h2; omega
 | n + 1, h1, h2 => by
  by_cases c2 : X (p + n) ≤ t
  ·exact ⟨p + n, by omega, by omega, by omega, c2, by rw [show p + (n : Int) + 1 = p + ((n + 1 : Nat) : Int) by omega]; exact h2⟩
  ·obtain ⟨k, a1, a2, a3, a4⟩ := Cuts.span (n := n) p0 hp (by omega) (by omega)
   exact ⟨k, a1, a2, by omega, a4⟩
theorem Cuts.in_ (h : Cuts l c X) {i t : Int} (i0 : 0 ≤ i) (i1 : i < l.n) (ht : l.r i ≤ t ∧ t < l.d i) : ∃ k : Int, (0 ≤ k ∧ k < ((c - 1 : Nat) : Int)) ∧ l.In X i k ∧ X k ≤ t ∧ t < X (k + 1) := by
 obtain ⟨a, ha, ea⟩ := (h.mem (l.r i)).2 ⟨i, ⟨i0, i1⟩, .inl rfl⟩
 obtain ⟨b, hb, eb⟩ := (h.mem (l.d i)).2 ⟨i, ⟨i0, i1⟩, .inr rfl⟩
 have hab : a < b := Classical.byContradiction fun hn => by
  have := h.mono hb.1 (show b ≤ a by omega) ha.2; omega
 obtain ⟨k, k1, k2, k3, k4⟩ := Cuts.span (c := c) (X := X) (t := t) (n := (b - a).toNat) ha.1 (by omega) (by omega) (by rw [show a + (((b - a).toNat : Nat) : Int) = b by omega]; omega)
 have h1 := h.mono ha.1 k2 (by omega)
 have h2 := h.mono (a := k + 1) (b := b) (by omega) (by omega) hb.2
 exact ⟨k, k1, ⟨by omega, by omega⟩, k4⟩
noncomputable def sp (X : Int → Int) (k t : Int) : Int := ind (X k ≤ t ∧ t < X (k + 1))
theorem Cuts.sp_sum (h : Cuts l c X) (y : Int → Int) {k t : Int} (k0 : 0 ≤ k) (k1 : k < ((c - 1 : Nat) : Int)) (ht : X k ≤ t ∧ t < X (k + 1)) : sm (fun k => y k * sp X k t) ((c - 1 : Nat) : Int) = y k := by
 rw [sm_one1 k0 k1 fun i i0 i1 hne => by unfold sp; rw [ind_f fun e => hne (h.one i0 i1 k0 k1 e ht), Int.mul_zero]]
 unfold sp
 rw [ind_t ht, Int.mul_one]
theorem Cuts.parts (h : Cuts l c X) (y : Int → Int) {i : Int} (i0 : 0 ≤ i) (i1 : i < l.n) (t : Int) : ind (l.r i ≤ t ∧ t < l.d i) * (1 - sm (fun k => y k * sp X k t) ((c - 1 : Nat) : Int)) = sm (fun k => ind (l.In X i k) * (sp X k t * (1 - y k))) ((c - 1 : Nat) : Int) := by
 by_cases ht : l.r i ≤ t ∧ t < l.d i
 ·obtain ⟨k, hk, hin, hs⟩ := h.in_ i0 i1 ht
  rw [ind_t ht, h.sp_sum y hk.1 hk.2 hs, sm_one1 hk.1 hk.2 fun j j0 j1 hne => by unfold sp; rw [ind_f fun e => hne (h.one j0 j1 hk.1 hk.2 e hs)]; simp]
  unfold sp
  rw [ind_t hin, ind_t hs]; omega
 ·rw [ind_f ht, Int.zero_mul]
  refine (sm_zeroG fun k k0 k1 => ?_).symm
  by_cases hin : l.In X i k
  ·unfold sp
   rw [ind_f (p := X k ≤ t ∧ t < X (k + 1)) fun e => ht ⟨Int.le_trans hin.1 e.1, Int.lt_of_lt_of_le e.2 hin.2⟩]; simp
  ·rw [ind_f hin, Int.zero_mul]
theorem Cuts.size (h : Cuts l c X) (hF : l.Fit M) {k : Int} (k0 : 0 ≤ k) (k1 : k < ((c - 1 : Nat) : Int)) : sm (sp X k) M = X (k + 1) - X k := by
 obtain ⟨i, hi, e⟩ := (h.mem (X k)).1 ⟨k, by omega, rfl⟩
 obtain ⟨j, hj, e2⟩ := (h.mem (X (k + 1))).1 ⟨k + 1, by omega, rfl⟩
 have := hF.r0 i hi.1 hi.2
 have := hF.rd i hi.1 hi.2
 have := hF.dM j hj.1 hj.2
 have := hF.rd j hj.1 hj.2
 have h1 := h.inc k (k + 1) k0 (by omega) (by omega)
 unfold sp
 rw [sm_span (by omega) (by omega)]
 omega
theorem Cuts.outs (h : Cuts l c X) (hF : l.Fit M) (y : Int → Int) {i : Int} (i0 : 0 ≤ i) (i1 : i < l.n) : l.outs M (fun t => sm (fun k => y k * sp X k t) ((c - 1 : Nat) : Int)) i = sm (fun k => ind (l.In X i k) * ((X (k + 1) - X k) * (1 - y k))) ((c - 1 : Nat) : Int) := by
 unfold Lds.outs
 rw [sm_congr (g := fun t => sm (fun k => ind (l.In X i k) * (sp X k t * (1 - y k))) ((c - 1 : Nat) : Int)) fun t _ _ => h.parts y i0 i1 t, sm_swap]
 refine sm_congr fun k k0 k1 => ?_
 rw [sm_mul, ← h.size hF k0 k1]
 congr 1
 rw [Int.mul_comm, ← sm_mul]
 exact sm_congr fun t _ _ => Int.mul_comm _ _
theorem CrushK.crush {kilns : Int} {S T : Int → Prop} (h : CrushK l c X kilns S T) (hC : Cuts l c X) (hF : l.Fit M) : l.Crush M kilns (fun i => ind (S i)) (fun t => sm (fun k => ind (T k) * sp X k t) ((c - 1 : Nat) : Int)) := by
 refine ⟨fun i _ _ => ind_rng _, fun t _ _ => ⟨sm_nonneg fun k _ _ => Int.mul_nonneg (ind_rng _).1 (ind_rng _).1, ?_⟩, ?_⟩
 ·by_cases e : ∃ k : Int, (0 ≤ k ∧ k < ((c - 1 : Nat) : Int)) ∧ X k ≤ t ∧ t < X (k + 1)
  ·obtain ⟨k, hk, hs⟩ := e
   rw [hC.sp_sum _ hk.1 hk.2 hs]
   exact (ind_rng _).2
  ·rw [sm_zeroG fun k k0 k1 => by unfold sp; rw [ind_f fun hs => e ⟨k, ⟨k0, k1⟩, hs⟩, Int.mul_zero]]
   decide
 ·have e1 : sm (fun t => sm (fun k => ind (T k) * sp X k t) ((c - 1 : Nat) : Int)) M = sm (fun k => ind (T k) * (X (k + 1) - X k)) ((c - 1 : Nat) : Int) := by
   rw [sm_swap]
   exact sm_congr fun k k0 k1 => by rw [sm_mul, hC.size hF k0 k1]
  rw [e1]
  refine Int.lt_of_lt_of_le h.big (sm_le fun i i0 i1 => ?_)
  rw [hC.outs hF _ i0 i1]
  exact Int.mul_le_mul_of_nonneg_left (by omega) (ind_rng _).1
end
end Go.Proofs.YtbepolognfdkeaaGreat
set_option maxRecDepth 100000
namespace Go.Proofs.YtbepolognfdkeaaGreat
noncomputable def cov (L q : Int) (t : Int) : Int := sm (fun p => ind (p % L = q)) t
theorem sm_sum_shift (f : Int → Int) (a : Int) (a0 : 0 ≤ a) : ∀ n : Nat, sm f (a + n) = sm f a + sm (fun i => f (a + i)) n
 | 0 => by rw [show a + ((0 : Nat) : Int) = a by omega, show ((0 : Nat) : Int) = 0 from rfl, sm_zero]; omega
 | n + 1 => by
  rw [show a + ((n + 1 : Nat) : Int) = (a + n) + 1 by omega, sm_succ _ (by omega), sm_sum_shift f a a0 n, show ((n + 1 : Nat) : Int) = (n : Int) + 1 by omega, sm_succ _ (by omega)]
  omega
theorem sm_shift (f : Int → Int) {a b : Int} (a0 : 0 ≤ a) (ab : a ≤ b) : sm f b = sm f a + sm (fun i => f (a + i)) (b - a) := by
 have h := sm_sum_shift f a a0 (b - a).toNat
 rw [show (((b - a).toNat : Nat) : Int) = b - a by omega, show a + (b - a) = b by omega] at h
 exact h
theorem cov_mono {L q a b : Int} (a0 : 0 ≤ a) (ab : a ≤ b) : cov L q a ≤ cov L q b := by
 unfold cov
 rw [sm_shift _ a0 ab]
 have : 0 ≤ sm (fun i => ind ((a + i) % L = q)) (b - a) := sm_nonneg fun _ _ _ => (ind_rng _).1
 omega
theorem sm_ind_uni {p : Int → Prop} {n : Int} (h : ∀ i j : Int, 0 ≤ i → i < n → 0 ≤ j → j < n → p i → p j → i = j) : sm (fun i => ind (p i)) n ≤ 1 := by
 by_cases c : ∃ i : Int, 0 ≤ i ∧ i < n ∧ p i
 ·obtain ⟨i, i0, i1, hi⟩ := c
  rw [sm_one1 i0 i1 fun j j0 j1 hne => ind_f fun hj => hne (h j i j0 j1 i0 i1 hj hi)]
  exact (ind_rng _).2
 ·rw [sm_zeroG fun i i0 i1 => ind_f fun hi => c ⟨i, i0, i1, hi⟩]
  decide
theorem emod_inj {L a b : Int} (L0 : 0 < L) (h : a % L = b % L) (h1 : a - b < L) (h2 : b - a < L) : a = b := by
 have e : (a - b) % L = 0 := by rw [Int.sub_emod, h, Int.sub_self]; simp
 obtain ⟨k, hk⟩ := Int.dvd_of_emod_eq_zero e
 have h3 : L * k < L * 1 := by omega
 have h4 : L * (-1) < L * k := by rw [Int.mul_neg, Int.mul_one]; omega
 have h5 : k < 1 := Int.lt_of_mul_lt_mul_left h3 (by omega)
 have h6 : -1 < k := Int.lt_of_mul_lt_mul_left h4 (by omega)
 have : k = 0 := by omega
 rw [this, Int.mul_zero] at hk
 omega
theorem cov_one {L q a b : Int} (L0 : 0 < L) (a0 : 0 ≤ a) (ab : a ≤ b) (hb : b - a ≤ L) : 0 ≤ cov L q b - cov L q a ∧ cov L q b - cov L q a ≤ 1 := by
 have h1 := cov_mono (L := L) (q := q) a0 ab
 refine ⟨by omega, ?_⟩
 unfold cov
 rw [sm_shift _ a0 ab]
 have := sm_ind_uni (p := fun i => (a + i) % L = q) (n := b - a) fun i j i0 i1 j0 j1 h1 h2 => by
  have := emod_inj L0 (h1.trans h2.symm) (by omega) (by omega)
  omega
 omega
theorem cov_sum {L a b : Int} (L0 : 0 < L) (a0 : 0 ≤ a) (ab : a ≤ b) : sm (fun q => cov L q b - cov L q a) L = b - a := by
 have e : sm (fun q => cov L q b - cov L q a) L = sm (fun q => sm (fun i => ind ((a + i) % L = q)) (b - a)) L := sm_congr fun q _ _ => by
  unfold cov
  rw [sm_shift _ a0 ab]; omega
 rw [e, sm_swap, sm_congr (g := fun _ => 1) fun i i0 i1 => ?_, sm_const 1 (by omega)]
 ·omega
 ·have h1 := Int.emod_nonneg (a + i) (show L ≠ 0 by omega)
  have h2 := Int.emod_lt_of_pos (a + i) L0
  rw [sm_one1 h1 h2 fun j _ _ hne => ind_f fun e => hne e.symm]
  exact ind_t rfl
theorem cov_full {L q : Int} (L0 : 0 < L) (q0 : 0 ≤ q) (q1 : q < L) : ∀ n : Nat, cov L q (n * L) = n
 | 0 => by rw [show ((0 : Nat) : Int) = 0 from rfl, Int.zero_mul]; rfl
 | n + 1 => by
  have h := cov_full L0 q0 q1 n
  have hn : 0 ≤ (n : Int) * L := Int.mul_nonneg (by omega) (by omega)
  have e : ((n + 1 : Nat) : Int) * L = (n : Int) * L + L := by rw [show ((n + 1 : Nat) : Int) = (n : Int) + 1 by omega, Int.add_mul, Int.one_mul]
  unfold cov at h ⊢
  rw [e, sm_shift _ hn (by omega), h, show (n : Int) * L + L - (n : Int) * L = L by omega, sm_one1 q0 q1 fun i i0 i1 hne => ind_f fun e => hne (by rw [Int.add_comm, Int.add_mul_emod_self_right, Int.emod_eq_of_lt i0 i1] at e; exact e)]
  rw [ind_t (by rw [Int.add_comm, Int.add_mul_emod_self_right, Int.emod_eq_of_lt q0 q1])]
  omega
theorem cov_le {L q t k : Int} (L0 : 0 < L) (q0 : 0 ≤ q) (q1 : q < L) (t0 : 0 ≤ t) (k0 : 0 ≤ k) (h : t ≤ k * L) : cov L q t ≤ k := by
 obtain ⟨n, rfl⟩ := Int.eq_ofNat_of_zero_le k0
 have := cov_mono (L := L) (q := q) t0 h
 rw [cov_full L0 q0 q1 n] at this
 exact this
def stt (x : Int → Int → Int) (k i : Int) : Int := sm (fun j => x j k) i
noncomputable def dly (l : Lds) (c : Nat) (X : Int → Int) (x : Int → Int → Int) (i h : Int) : Int :=
 sm (fun k => (cov (X (k + 1) - X k) (h - X k) (stt x k (i + 1)) - cov (X (k + 1) - X k) (h - X k) (stt x k i)) * sp X k h) ((c - 1 : Nat) : Int)
section
variable {l : Lds} {c : Nat} {X : Int → Int} {M kilns : Int} {x : Int → Int → Int}
theorem Deal.st (h : Deal l c X kilns x) {i k : Int} (i0 : 0 ≤ i) (i1 : i < l.n) (k0 : 0 ≤ k) (k1 : k < ((c - 1 : Nat) : Int)) : 0 ≤ stt x k i ∧ stt x k (i + 1) = stt x k i + x i k :=
 ⟨sm_nonneg fun j j0 j1 => h.nn j k j0 (by omega) k0 k1, sm_succ _ i0⟩
theorem Deal.sched (h : Deal l c X kilns x) (hC : Cuts l c X) (hF : l.Fit M) (hk : 0 ≤ kilns) : l.Sched M kilns (dly l c X x) := by
 have hL : ∀ k : Int, 0 ≤ k → k < ((c - 1 : Nat) : Int) → 0 < X (k + 1) - X k := fun k k0 k1 => by have := hC.inc k (k + 1) k0 (by omega) (by omega); omega
 have hat : ∀ i k t : Int, 0 ≤ k → k < ((c - 1 : Nat) : Int) → X k ≤ t ∧ t < X (k + 1) → dly l c X x i t = cov (X (k + 1) - X k) (t - X k) (stt x k (i + 1)) - cov (X (k + 1) - X k) (t - X k) (stt x k i) := fun i k t k0 k1 ht => hC.sp_sum (fun k => cov (X (k + 1) - X k) (t - X k) (stt x k (i + 1)) - cov (X (k + 1) - X k) (t - X k) (stt x k i)) k0 k1 ht
 have hout : ∀ i t : Int, (¬ ∃ k : Int, (0 ≤ k ∧ k < ((c - 1 : Nat) : Int)) ∧ X k ≤ t ∧ t < X (k + 1)) → dly l c X x i t = 0 := fun i t hn => sm_zeroG fun k k0 k1 => by
  unfold sp; rw [ind_f fun hs => hn ⟨k, ⟨k0, k1⟩, hs⟩, Int.mul_zero]
 refine ⟨fun i t i0 i1 => ?_, fun i t i0 i1 hne => ?_, fun i i0 i1 => ?_, fun t t0 t1 => ?_⟩
 ·by_cases e : ∃ k : Int, (0 ≤ k ∧ k < ((c - 1 : Nat) : Int)) ∧ X k ≤ t ∧ t < X (k + 1)
  ·obtain ⟨k, hk, hs⟩ := e
   obtain ⟨h1, h2⟩ := h.st i0 i1 hk.1 hk.2
   rw [hat i k t hk.1 hk.2 hs]
   have h3 := h.nn i k i0 i1 hk.1 hk.2
   have h4 := h.le i k i0 i1 hk.1 hk.2
   exact cov_one (hL k hk.1 hk.2) h1 (by omega) (by omega)
  ·rw [hout i t e]; omega
 ·by_cases e : ∃ k : Int, (0 ≤ k ∧ k < ((c - 1 : Nat) : Int)) ∧ X k ≤ t ∧ t < X (k + 1)
  ·obtain ⟨k, hk, hs⟩ := e
   rw [hat i k t hk.1 hk.2 hs] at hne
   obtain ⟨h1, h2⟩ := h.st i0 i1 hk.1 hk.2
   have hx : x i k ≠ 0 := fun e => hne (by rw [h2, e, Int.add_zero, Int.sub_self])
   have hin := h.win i k i0 i1 hk.1 hk.2 hx
   exact ⟨Int.le_trans hin.1 hs.1, Int.lt_of_lt_of_le hs.2 hin.2⟩
  ·exact absurd (hout i t e) hne
 ·unfold dly
  rw [sm_swap, ← h.sum i i0 i1]
  refine sm_congr fun k k0 k1 => ?_
  obtain ⟨h1, h2⟩ := h.st i0 i1 k0 k1
  have h3 := h.nn i k i0 i1 k0 k1
  have hLk := hL k k0 k1
  have hr : 0 ≤ X k ∧ X (k + 1) ≤ M := by
   obtain ⟨a, ha, ea⟩ := (hC.mem (X k)).1 ⟨k, by omega, rfl⟩
   obtain ⟨b, hb, eb⟩ := (hC.mem (X (k + 1))).1 ⟨k + 1, by omega, rfl⟩
   have := hF.r0 a ha.1 ha.2
   have := hF.rd a ha.1 ha.2
   have := hF.dM b hb.1 hb.2
   have := hF.rd b hb.1 hb.2
   omega
  have hcs := cov_sum (a := stt x k i) (b := stt x k (i + 1)) hLk h1 (by omega)
  rw [show x i k = stt x k (i + 1) - stt x k i by omega, ← hcs, sm_shift _ hr.1 (show X k ≤ M by omega), sm_zeroG fun t t0 t1 => by unfold sp; rw [ind_f (by omega), Int.mul_zero], Int.zero_add]
  rw [sm_shift _ (show 0 ≤ X (k + 1) - X k by omega) (show X (k + 1) - X k ≤ M - X k by omega)]
  rw [sm_zeroG (f := fun t => (cov (X (k + 1) - X k) (X k + (X (k + 1) - X k + t) - X k) (stt x k (i + 1)) - cov (X (k + 1) - X k) (X k + (X (k + 1) - X k + t) - X k) (stt x k i)) * sp X k (X k + (X (k + 1) - X k + t))) fun t t0 t1 => by unfold sp; rw [ind_f (by omega), Int.mul_zero], Int.add_zero]
  exact sm_congr fun q q0 q1 => by unfold sp; rw [ind_t (by omega), Int.mul_one, show X k + q - X k = q by omega]
 ·by_cases e : ∃ k : Int, (0 ≤ k ∧ k < ((c - 1 : Nat) : Int)) ∧ X k ≤ t ∧ t < X (k + 1)
  ·obtain ⟨k, hk2, hs⟩ := e
   have key : ∀ n : Nat, (n : Int) ≤ l.n → sm (fun i => dly l c X x i t) n = cov (X (k + 1) - X k) (t - X k) (stt x k n) := by
    intro n
    induction n with
    | zero => intro _; rfl
    | succ n ih =>
     intro hn
     rw [show ((n + 1 : Nat) : Int) = (n : Int) + 1 by omega, sm_succ _ (by omega), ih (by omega), hat n k t hk2.1 hk2.2 hs]
     omega
   rw [key l.n (Int.le_refl _)]
   exact cov_le (hL k hk2.1 hk2.2) (by omega) (by omega) (sm_nonneg fun j j0 j1 => h.nn j k j0 j1 hk2.1 hk2.2) hk (h.most k hk2.1 hk2.2)
  ·rw [sm_zeroG fun i _ _ => hout i t e]; exact hk
end
def Lds.Can (l : Lds) (k : Int) : Prop := ∃ x, l.Sched 1000000000 k x
def Lds.Cr (l : Lds) (k : Int) : Prop := ∃ c y, l.Crush 1000000000 k c y
theorem Built.cr {l : Lds} {c : Nat} {X : Int → Int} {kilns : Int} {G : Net} {L LV : Int → Int} {fl : Int} (h : Built l c X kilns G) (hF : l.Fit 1000000000) (hf : G.Flow L fl) (hl : G.Lev L LV) (hs : LV (G.nn - 1) < 0) (hne : fl ≠ sm l.len l.n) : l.Cr kilns :=
 ⟨_, _, (h.crush hf (by have hle := h.fl_le hf; omega) (hl.cut h.ok hs)).crush h.cuts hF⟩
theorem Built.can {l : Lds} {c : Nat} {X : Int → Int} {kilns : Int} {G : Net} {L LV : Int → Int} {fl : Int} (h : Built l c X kilns G) (hF : l.Fit 1000000000) (hk : 0 ≤ kilns) (hf : G.Flow L fl) (hl : G.Lev L LV) (hs : LV (G.nn - 1) < 0) : fl = sm l.len l.n ↔ l.Can kilns := by
 constructor
 ·intro e
  exact ⟨_, (h.deal hf e).sched h.cuts hF hk⟩
 ·rintro ⟨x, hx⟩
  refine Classical.byContradiction fun hne => ?_
  have hle := h.fl_le hf
  exact hx.no_crush ((h.crush hf (by omega) (hl.cut h.ok hs)).crush h.cuts hF)
namespace Lds
def Val (l : Lds) (i : Int) : Prop := 0 ≤ l.r i ∧ l.r i < l.d i ∧ l.d i ≤ 1000000 ∧ 1 ≤ l.len i ∧ l.len i ≤ l.d i - l.r i ∧ 0 ≤ l.wo i ∧ l.wo i ≤ 1000000
def Valid (l : Lds) : Prop := ∀ i : Int, 0 ≤ i → i < l.n → l.Val i
noncomputable def chk (l : Lds) : Int := if 256 < l.n then 2 else @ite _ l.Valid (Classical.propDecidable _) 0 1
noncomputable def chkK (l : Lds) (k : Int) : Int := if l.chk = 0 then (if 1 ≤ k ∧ k ≤ 64 then 0 else 1) else l.chk
theorem chk_ok {l : Lds} (hn : l.n ≤ 256) (h : l.Valid) : l.chk = 0 := by unfold chk; rw [if_neg (by omega), if_pos h]
theorem chk_bad {l : Lds} (hn : l.n ≤ 256) (h : ¬ l.Valid) : l.chk = 1 := by unfold chk; rw [if_neg (by omega), if_neg h]
theorem chk_long {l : Lds} (hn : 256 < l.n) : l.chk = 2 := by unfold chk; rw [if_pos hn]
theorem of_chk {l : Lds} (h : l.chk = 0) : l.n ≤ 256 ∧ l.Valid := by
 unfold chk at h
 by_cases c : 256 < l.n
 ·rw [if_pos c] at h; omega
 ·rw [if_neg c] at h
  by_cases c2 : l.Valid
  ·exact ⟨by omega, c2⟩
  ·rw [if_neg c2] at h; omega
theorem of_chkK {l : Lds} {k : Int} (h : l.chkK k = 0) : l.n ≤ 256 ∧ l.Valid ∧ 1 ≤ k ∧ k ≤ 64 := by
 unfold chkK at h
 by_cases c : l.chk = 0
 ·rw [if_pos c] at h
  obtain ⟨h1, h2⟩ := of_chk c
  by_cases c2 : 1 ≤ k ∧ k ≤ 64
  ·exact ⟨h1, h2, c2⟩
  ·rw [if_neg c2] at h; omega
 ·rw [if_neg c] at h; exact absurd h c
theorem chkK_ok {l : Lds} {k : Int} (hn : l.n ≤ 256) (h : l.Valid) (hk : 1 ≤ k ∧ k ≤ 64) : l.chkK k = 0 := by
 unfold chkK; rw [if_pos (chk_ok hn h), if_pos hk]
theorem Valid.fit {l : Lds} (h : l.Valid) : l.Fit 1000000 :=
 ⟨fun i a b => (h i a b).1, fun i a b => (h i a b).2.1, fun i a b => (h i a b).2.2.1, fun i a b => (h i a b).2.2.2.1, fun i a b => (h i a b).2.2.2.2.1⟩
structure I64 (l : Lds) : Prop where
 r : ∀ i : Int, 0 ≤ i → i < l.n → -9223372036854775808 ≤ l.r i ∧ l.r i ≤ 9223372036854775807
 d : ∀ i : Int, 0 ≤ i → i < l.n → -9223372036854775808 ≤ l.d i ∧ l.d i ≤ 9223372036854775807
 len : ∀ i : Int, 0 ≤ i → i < l.n → -9223372036854775808 ≤ l.len i ∧ l.len i ≤ 9223372036854775807
 wo : ∀ i : Int, 0 ≤ i → i < l.n → -9223372036854775808 ≤ l.wo i ∧ l.wo i ≤ 9223372036854775807
end Lds
end Go.Proofs.YtbepolognfdkeaaGreat
set_option maxRecDepth 100000
namespace Go.Proofs.YtbepolognfdkeaaGreat
open Go.RowKit Go.Proofs
theorem heap_sort {α : Type} [Inhabited α] (enc : α → Value) (w : World) (ob n : Nat) (d : Array α) (os : Array Obj) {k : Nat} (hk : k < w.heap.size) (hne : k ≠ ob) : (sortWorld enc w ob 0 n d os).heap[k]? = w.heap[k]? := by
 unfold sortWorld
 rw [Sort.heap_grow_old _ _ (by rw [Sort.size_putRow]; exact hk)]
 unfold Sort.putRow Sort.mapBlock
 show (w.heap.modify ob _)[k]? = _
 rw [Array.getElem?_modify, if_neg (fun e => hne e.symm)]
theorem size_sort {α : Type} [Inhabited α] (enc : α → Value) (w : World) (ob n : Nat) (d : Array α) (os : Array Obj) : w.heap.size ≤ (sortWorld enc w ob 0 n d os).heap.size := by
 unfold sortWorld
 rw [Sort.size_grow, Sort.size_putRow]
 exact Nat.le_add_right _ _
theorem Own.sorted {α : Type} [Inhabited α] {enc : α → Value} {B : Nat} {w0 w : World} {H : List (Option Blk)} {ob cap nr : Nat} {E : TypeId} {G : Int → Value} (hO : Own B w0 w (some (vch ob E cap G) :: H)) (n : Nat) (d : Array α) (os : Array Obj) (hs : d.size = nr) (hc : nr ≤ cap) :
  Own B w0 (sortWorld enc w ob 0 n d os) (some (vch ob E cap (fun i => if i < nr then enc d[i.toNat]! else G i)) :: H) := by
 have hge : B ≤ ob := hO.ge _ (List.mem_cons_self ..)
 have hb := hO.get 0 rfl
 have hlt := hO.lt 0 rfl
 refine hO.updBB 0 rfl ⟨rfl, rfl, rfl, size_sort .., fun k hk => heap_sort enc w ob n d os (Nat.lt_trans (Nat.lt_of_lt_of_le hk hge) hlt) (by omega)⟩ (fun j hj hne => heap_sort enc w ob n d os hj hne) ?_ hge (.inl rfl)
 obtain ⟨c, h1, h2, h3⟩ := hb
 refine blkIs.of_row rfl ⟨Sort.putCells enc 0 d c, ?_, ?_, fun i hi => ?_⟩
 ·unfold sortWorld
  rw [Sort.heap_grow_old _ _ (by rw [Sort.size_putRow]; exact hlt)]
  unfold Sort.putRow Sort.mapBlock
  show (w.heap.modify ob _)[ob]? = _
  rw [Array.getElem?_modify, if_pos rfl]
  show (w.heap[ob]?).map _ = _
  have h1' : w.heap[ob]? = some (.cells c E (0, 0)) := h1
  rw [h1']
  rfl
 ·unfold Sort.putCells
  rw [Array.size_mapIdx]; exact h2
 ·have hi' : i < cap := hi
  have h4 : c[i]? = some (G i) := h3 i hi
  unfold Sort.putCells
  rw [Array.getElem?_mapIdx, h4]
  show some (if 0 ≤ i ∧ i < 0 + d.size then enc d[i - 0]! else G i) = some (if (i : Int) < nr then enc d[(i : Int).toNat]! else G i)
  by_cases e : i < nr
  ·rw [if_pos ⟨Nat.zero_le _, by omega⟩, if_pos (by omega)]; rfl
  ·rw [if_neg (by omega), if_neg (by omega)]
end Go.Proofs.YtbepolognfdkeaaGreat
namespace Go.Proofs.YtbepolognfdkeaaGreat
open Go.RowKit
def FW (ro : Option Nat) : Fence := { Fence.wide with round := ro }
section
variable {P : Program} {f N : Nat} {k : List Item} {F : Fr} {w : World} {R : Ending → World → Prop} {ops : Array Oper} {o : Oper} {rest : List Oper} {ro : Option Nat} {n : Nat} {a : Act} {Q : Exit → Act → World → Prop}
theorem callsFW {g : FuncId} {args : Array Value} (h : Calls P g args w R) : CallsIn (FW ro) n P g args w R := by
 have h1 := (callsIn_wide (n := n)).2 h
 exact h1
theorem rowsFW {row : String} {args : Array Value} {R : Value → World → Prop} (h : Rows P row args w R) : RowsIn (FW ro) n P row args w R := fun c cs _ =>
 let ⟨v, w', r, s⟩ := h c cs
 ⟨v, w', r, stepsIn_wide.2 s⟩
theorem wpIn_of_wp {K : Act → World → Prop} (hnd : ∀ c, o.op ≠ .defer c) (h : o.wp P a w K Q) : o.wpIn (FW ro) n P a w K Q := by
 refine ⟨fun _ _ => trivial, ?_⟩
 have e : o.semAt (FW ro).round a.eval = execOp a.eval o := by
  cases ro with
  | none => unfold Oper.semAt; cases ho : o.op <;> rfl
  | some l => exact Oper.semAt_some l a.eval o hnd
 rw [e]
 unfold Oper.wp at h
 revert h
 cases hr : (execOp a.eval o).run P w with
 | ok x w' =>
  cases x with
  | value v => exact id
  | skip => exact id
  | defer d => exact id
  | enter g args => exact fun h => ⟨fun hd => absurd hd (by simp [FW, Fence.wide]), callsFW h⟩
  | row row args => exact fun h => ⟨fun hd => absurd hd (by simp [FW, Fence.wide]), rowsFW h⟩
  | _ => intro h; exact h.elim
 | halt x w' => cases x <;> intro h <;> exact h
def LI (ro : Option Nat) (n : Nat) (P : Program) (N : Nat) (ops : Array Oper) (Q : Exit → Act → World → Prop) (l : List Oper) (F : Fr) (w : World) : Prop := ∀ a, Holds N F a → wpListIn (FW ro) n P ops Q l a w
def CI (ro : Option Nat) (n : Nat) (P : Program) (N : Nat) (Q : Exit → Act → World → Prop) (c : Code) (F : Fr) (w : World) : Prop := ∀ a, Holds N F a → c.wpIn (FW ro) n P Q a w
theorem li_nil (h : ∀ a, Holds N F a → Q .normal a w) : LI ro n P N ops Q [] F w := h
theorem li_ow {Post : Fr → World → Prop} (hg : o.guard = none) (hnd : ∀ c, o.op ≠ .defer c) (hw : OpW P N o F w Post) (h : ∀ F' w', Post F' w' → LI ro n P N ops Q rest F' w') : LI ro n P N ops Q (o :: rest) F w := fun a ha =>
 wpListIn_plain hg fun K hK => wpIn_of_wp hnd (hw a ha K _ fun F' a' w' hp ha' => hK _ _ (h F' w' hp a' ha'))
theorem li_v {d : Nat} {v : Value} (hg : o.guard = none) (hnd : ∀ c, o.op ≠ .defer c) (hd : o.dst = some d) (hN : Nat.blt d N = true) (hv : OpV P N o F w v) (h : LI ro n P N ops Q rest ((d, v) :: F) w) : LI ro n P N ops Q (o :: rest) F w :=
 li_ow hg hnd (ow_v hd hN hv) fun F' w' ⟨h1, h2⟩ => by subst h1; subst h2; exact h
theorem ci_region {id : Nat} {l : List Oper} (h : LI ro n P N l.toArray Q l F w) : CI ro n P N Q (.region id l.toArray false) F w := fun a ha => wpIn_region_lit (h a ha)
theorem ci_block {id : Nat} {c : Code} (h : CI ro n P N (Exit.inBlock id Q) c F w) : CI ro n P N Q (.block id c) F w := fun a ha => wpIn_block (h a ha)
theorem wpIn_yield {l d : Nat} {fo : Operand} {xs : Array Operand} {ats : Array TypeId} {vs : List Value} {K : Act → World → Prop} {Post : Value → World → Prop} (hd : o.dst = some d) (hN : Nat.blt d N = true) (ho : o.op = .call { callee := .value fo, args := xs, argTypes := ats })
  (hf : Fr.ev F fo = some (.func (.yield l) #[] #[])) (hx : Fr.evs F xs.toList = some vs) (hY : YieldAt (FW none) 0 P l vs.toArray w fun e w' => ∃ v, e = .returned v ∧ Post v w') (ha : Holds N F a)
  (hK : ∀ v a' w', Post v w' → Holds N ((d, v) :: F) a' → K a' w') : o.wpIn (FW none) 0 P a w K Q := by
 refine ⟨fun _ _ => trivial, ?_⟩
 have hargs : xs.map a.eval = vs.toArray := by
  apply Array.ext'
  simpa using ha.evs hx
 obtain ⟨fn, tmps, assign, body, h1, h2⟩ := hY
 have hrun : (execOp a.eval o).run P w = .ok (.round l fn tmps assign body) w := by
  unfold execOp
  simp only [ho, resolve, Sem.run_bind, Deferred.ofValue, ha.ev hf, hargs]
  simp [invoke, Result.andThen, h1]
 have e : o.semAt (FW none).round a.eval = execOp a.eval o := by unfold Oper.semAt; cases ho : o.op <;> rfl
 rw [e, hrun]
 refine ⟨fun hd => absurd hd (by simp [FW, Fence.wide]), ?_⟩
 refine RoundIn.mono h2 fun e w' he => ?_
 obtain ⟨v, rfl, hp⟩ := he
 rw [hd]
 exact hK v _ w' hp (ha.put (lt_of_blt hN) v)
end
end Go.Proofs.YtbepolognfdkeaaGreat
