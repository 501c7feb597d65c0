import Derived.Test.YtlldeifbfpmbaaaGreatFbC
import Derived.Test.YtlldeifbfpmbaaaGreatNetT
import Derived.Test.YtlldeifbfpmbaaaGreatHeap2
set_option maxRecDepth 100000
namespace Go.Proofs.YtlldeifbfpmbaaaGreat
open Go.RowKit Go.Proofs
def IsPay (n : Nat) (p : Int → Int) (a : Int) : Prop := (0 ≤ a ∧ a < n) ∧ p a < 0 ∧ ∀ i : Int, 0 ≤ i → i < n → p i < 0 → ¬ (p i < p a ∨ p i = p a ∧ i < a)
def IsGet (n : Nat) (p : Int → Int) (b : Int) : Prop := (0 ≤ b ∧ b < n) ∧ 0 < p b ∧ ∀ i : Int, 0 ≤ i → i < n → 0 < p i → ¬ (p b < p i ∨ p i = p b ∧ i < b)
theorem IsPay.uniq {n : Nat} {p : Int → Int} {a b : Int} (h : IsPay n p a) (h' : IsPay n p b) : a = b := by
 have h1 := h.2.2 b h'.1.1 h'.1.2 h'.2.1
 have h2 := h'.2.2 a h.1.1 h.1.2 h.2.1
 omega
theorem IsGet.uniq {n : Nat} {p : Int → Int} {a b : Int} (h : IsGet n p a) (h' : IsGet n p b) : a = b := by
 have h1 := h.2.2 b h'.1.1 h'.1.2 h'.2.1
 have h2 := h'.2.2 a h.1.1 h.1.2 h.2.1
 omega
open Classical in
noncomputable def payer (n : Nat) (p : Int → Int) : Int := if h : ∃ a, IsPay n p a then Classical.choose h else 0
open Classical in
noncomputable def getter (n : Nat) (p : Int → Int) : Int := if h : ∃ a, IsGet n p a then Classical.choose h else 0
theorem payer_eq {n : Nat} {p : Int → Int} {a : Int} (h : IsPay n p a) : payer n p = a := by
 have hx : ∃ a, IsPay n p a := ⟨a, h⟩
 unfold payer; rw [dif_pos hx]; exact (Classical.choose_spec hx).uniq h
theorem getter_eq {n : Nat} {p : Int → Int} {a : Int} (h : IsGet n p a) : getter n p = a := by
 have hx : ∃ a, IsGet n p a := ⟨a, h⟩
 unfold getter; rw [dif_pos hx]; exact (Classical.choose_spec hx).uniq h
noncomputable def moved (n : Nat) (p : Int → Int) : Int := min (-(p (payer n p))) (p (getter n p))
def tfr (p : Int → Int) (a b x : Int) : Int → Int := upd (upd p a (p a + x)) b (upd p a (p a + x) b - x)
noncomputable def nxt (n : Nat) (p : Int → Int) : Int → Int := tfr p (payer n p) (getter n p) (moved n p)
noncomputable def stP (n : Nat) (p : Int → Int) : Nat → Int → Int
 | 0 => p
 | k + 1 => nxt n (stP n p k)
structure Settled (n : Nat) (p : Int → Int) (K : Nat) : Prop where
 some : ∀ k, k < K → ∃ i : Int, 0 ≤ i ∧ i < n ∧ stP n p k i < 0
 none : ∀ i : Int, 0 ≤ i → i < n → 0 ≤ stP n p K i
theorem tfr_sum {n : Nat} {p : Int → Int} {a b x : Int} (a0 : 0 ≤ a) (a1 : a < n) (b0 : 0 ≤ b) (b1 : b < n) : sm (tfr p a b x) n = sm p n := by
 unfold tfr
 rw [sm_upd _ b _ b0 b1, sm_upd _ a _ a0 a1]
 omega
theorem tfr_at {p : Int → Int} {a b x : Int} (hab : a ≠ b) (i : Int) : tfr p a b x i = if i = a then p a + x else if i = b then p b - x else p i := by
 unfold tfr upd
 by_cases h1 : i = b
 ·subst h1; rw [if_pos rfl, if_neg (fun e => hab e.symm), if_neg (fun e => hab e.symm), if_pos rfl]
 ·rw [if_neg h1, if_neg h1]
theorem sum_pos {n : Nat} {p : Int → Int} (hs : sm p n = 0) {a : Int} (a0 : 0 ≤ a) (a1 : a < n) (ha : p a < 0) : ∃ b : Int, 0 ≤ b ∧ b < n ∧ 0 < p b := by
 refine Classical.byContradiction fun hx => ?_
 have hall : ∀ i : Int, 0 ≤ i → i < n → 0 ≤ -(p i) := fun i i0 i1 => by
  refine Classical.byContradiction fun hy => hx ⟨i, i0, i1, by omega⟩
 have h1 := sm_pos (f := fun i => -(p i)) (k := n) hall a a0 a1
 have h2 : sm (fun i => -(p i)) n = -(sm p n) := by
  have := sm_mul (-1) p n
  rw [show (fun i => -(p i)) = (fun i => -1 * p i) from funext fun i => by omega, this]; omega
 omega
theorem pay_ex {n : Nat} {p : Int → Int} {a : Int} (a0 : 0 ≤ a) (a1 : a < n) (ha : p a < 0) : ∃ b, IsPay n p b := by
 have key : ∀ k : Nat, (k : Int) ≤ n → (∃ i : Int, 0 ≤ i ∧ i < k ∧ p i < 0) → ∃ b : Int, (0 ≤ b ∧ b < k) ∧ p b < 0 ∧ ∀ i : Int, 0 ≤ i → i < k → p i < 0 → ¬ (p i < p b ∨ p i = p b ∧ i < b) := by
  intro k
  induction k with
  | zero => rintro _ ⟨i, i0, i1, _⟩; omega
  | succ k ih =>
   intro hk hx
   by_cases hx' : ∃ i : Int, 0 ≤ i ∧ i < k ∧ p i < 0
   ·obtain ⟨b, hb1, hb2, hb3⟩ := ih (by omega) hx'
    by_cases hc : p k < p b
    ·exact ⟨k, by omega, by omega, fun i i0 i1 hi => by
      by_cases e : i = k
      ·subst e; omega
      ·have := hb3 i i0 (by omega) hi; omega⟩
    ·exact ⟨b, by omega, hb2, fun i i0 i1 hi => by
      by_cases e : i = k
      ·subst e; omega
      ·exact hb3 i i0 (by omega) hi⟩
   ·obtain ⟨i, i0, i1, hi⟩ := hx
    have : i = k := by
     refine Classical.byContradiction fun e => hx' ⟨i, i0, by omega, hi⟩
    subst this
    exact ⟨k, by omega, hi, fun j j0 j1 hj => by
     by_cases e : j = k
     ·subst e; omega
     ·exact absurd ⟨j, j0, by omega, hj⟩ hx'⟩
 exact key n (Int.le_refl _) ⟨a, a0, a1, ha⟩
theorem get_ex {n : Nat} {p : Int → Int} {a : Int} (a0 : 0 ≤ a) (a1 : a < n) (ha : 0 < p a) : ∃ b, IsGet n p b := by
 obtain ⟨b, h1, h2, h3⟩ := pay_ex (p := fun i => -(p i)) a0 a1 (show -(p a) < 0 by omega)
 have h2 : -(p b) < 0 := h2
 exact ⟨b, h1, by omega, fun i i0 i1 hi => by have h4 : ¬ (-(p i) < -(p b) ∨ -(p i) = -(p b) ∧ i < b) := h3 i i0 i1 (show -(p i) < 0 by omega); omega⟩
theorem step_ok {n : Nat} {p : Int → Int} (hs : sm p n = 0) (hx : ∃ i : Int, 0 ≤ i ∧ i < n ∧ p i < 0) : ∃ a b, IsPay n p a ∧ IsGet n p b ∧ payer n p = a ∧ getter n p = b := by
 obtain ⟨i, i0, i1, hi⟩ := hx
 obtain ⟨a, ha⟩ := pay_ex i0 i1 hi
 obtain ⟨j, j0, j1, hj⟩ := sum_pos hs i0 i1 hi
 obtain ⟨b, hb⟩ := get_ex j0 j1 hj
 exact ⟨a, b, ha, hb, payer_eq ha, getter_eq hb⟩
theorem stP_sum {n : Nat} {p : Int → Int} (hs : sm p n = 0) : ∀ k, (∀ j, j < k → ∃ i : Int, 0 ≤ i ∧ i < n ∧ stP n p j i < 0) → sm (stP n p k) n = 0 := by
 intro k
 induction k with
 | zero => intro _; exact hs
 | succ k ih =>
  intro h
  have h1 := ih fun j hj => h j (by omega)
  obtain ⟨a, b, ha, hb, e1, e2⟩ := step_ok h1 (h k (by omega))
  show sm (nxt n (stP n p k)) n = 0
  unfold nxt
  rw [e1, e2, tfr_sum ha.1.1 ha.1.2 hb.1.1 hb.1.2]; exact h1
def nz (n : Nat) (p : Int → Int) : Nat := (pk (fun i => decide (p i ≠ 0)) n).length
theorem nz_step {n : Nat} {p : Int → Int} {a b : Int} (ha : IsPay n p a) (hb : IsGet n p b) : nz n (tfr p a b (min (-(p a)) (p b))) < nz n p := by
 have hab : a ≠ b := fun e => by have := ha.2.1; have := hb.2.1; rw [e] at *; omega
 have h1 := ha.2.1
 have h2 := hb.2.1
 have hle : ∀ i : Int, 0 ≤ i → i < n → decide (tfr p a b (min (-(p a)) (p b)) i ≠ 0) = true → decide (p i ≠ 0) = true := fun i _ _ hi => by
  have hi := of_decide_eq_true hi
  rw [tfr_at hab] at hi
  refine decide_eq_true ?_
  split at hi
  ·rename_i e; rw [e]; omega
  ·split at hi
   ·rename_i e; rw [e]; omega
   ·exact hi
 by_cases q : -(p a) ≤ p b
 ·exact pk_lt hle a ha.1.1 ha.1.2 (decide_eq_false (by rw [tfr_at hab, if_pos rfl]; omega)) (decide_eq_true (by omega))
 ·exact pk_lt hle b hb.1.1 hb.1.2 (decide_eq_false (by rw [tfr_at hab, if_neg (fun e => hab e.symm), if_pos rfl]; omega)) (decide_eq_true (by omega))
theorem nz_two {n : Nat} {p : Int → Int} {a b : Int} (ha : IsPay n p a) (hb : IsGet n p b) : 2 ≤ nz n p := by
 have hab : a ≠ b := fun e => by have := ha.2.1; have := hb.2.1; rw [e] at *; omega
 have h1 : 0 < nz n (upd p a 0) := List.length_pos_of_mem (pk_mem.2 ⟨hb.1.1, hb.1.2, decide_eq_true (by rw [upd_ne _ _ (fun e => hab e.symm)]; have := hb.2.1; omega)⟩)
 have h2 : nz n (upd p a 0) < nz n p := pk_lt (fun i _ _ hi => by
  have hi := of_decide_eq_true hi
  refine decide_eq_true ?_
  unfold upd at hi
  split at hi
  ·exact absurd rfl hi
  ·exact hi) a ha.1.1 ha.1.2 (decide_eq_false (by rw [upd_same]; simp)) (decide_eq_true (by have := ha.2.1; omega))
 omega
theorem stP_nz {n : Nat} {p : Int → Int} (hs : sm p n = 0) : ∀ k, (∀ j, j < k → ∃ i : Int, 0 ≤ i ∧ i < n ∧ stP n p j i < 0) → k + nz n (stP n p k) ≤ n := by
 intro k
 induction k with
 | zero => intro _; have := pk_len (fun i => decide (p i ≠ 0)) n; show 0 + nz n p ≤ n; unfold nz; omega
 | succ k ih =>
  intro h
  have h1 := ih fun j hj => h j (by omega)
  obtain ⟨a, b, ha, hb, e1, e2⟩ := step_ok (stP_sum hs k fun j hj => h j (by omega)) (h k (by omega))
  have h2 := nz_step ha hb
  have e : stP n p (k + 1) = tfr (stP n p k) a b (min (-(stP n p k a)) (stP n p k b)) := by
   show nxt n (stP n p k) = _
   unfold nxt moved
   rw [e1, e2]
  rw [e]
  omega
theorem ps_sum (n : Nat) (D : Int → Int → Int) : sm (ps n D) n = 0 := by
 unfold ps
 rw [sm_sub, sm_swap (fun v i => D i v) n n]
 exact Int.sub_self _
end Go.Proofs.YtlldeifbfpmbaaaGreat
set_option maxRecDepth 100000
namespace Go.Proofs.YtlldeifbfpmbaaaGreat
open Go.RowKit Go.Proofs
theorem top_any (b n cap : Nat) (ao : Option Addr) (P A : Int → Int) (w : World) (hn : 1 ≤ n) (hL : LAt w.heap.size w b [.slice ao n cap]) (h : SAt w.heap.size w ao 2 n (hpG P A)) :
  Calls Tryz.prog 67 #[.pointer (some ⟨b, 0, none⟩)] w fun e w' => e = .returned (.agg [.int .i64 (P 0), .int .i64 (A 0)].toArray) ∧ Below w.heap.size w w' := by
 obtain ⟨gb, go, hga, hrow⟩ := h.open (by omega)
 have hl := hL.open
 refine calls_of_run (F := [(0, _)]) Tryz.func67 rfl Tryz.ntmps67 rfl rfl ?_
 have hO0 := Own.init w
 refine run_seq <| run_region <| rl_ow rfl (ow_alloc _ rfl rfl rfl zero_123 rfl hO0) ?_
 rintro _ w1 ⟨b2, rfl, hO2, hs3⟩
 refine rl_nil <| run_seq <| run_region <| rl_v rfl rfl rfl (ov_move rfl rfl) <| rl_v rfl rfl rfl (ov_nil rfl rfl) <| rl_v rfl rfl rfl (ov_fieldS rfl Tryz.underlying119 rfl (fo := 0) rfl (by kernel_rfl) rfl) ?_
 refine rl_v rfl rfl rfl (ov_load rfl Tryz.underlying117 rfl rfl (by exact hl _ hO2.below rfl)) ?_
 refine rl_v rfl rfl rfl (ov_index rfl Tryz.underlying117 (by kernel_rfl) (s := 2) rfl rfl ⟨by omega, by omega⟩ (by exact hga (by omega))) ?_
 refine rl_v rfl rfl rfl (ov_loadE rfl Tryz.underlying123 rfl (by kernel_rfl) rfl ⟨by omega, by omega⟩ rfl (hrow _ hO2.below)) ?_
 refine rl_ow rfl (ow_storeW rfl rfl (by kernel_rfl) hO2 0 rfl rfl (by rfl) rfl (by rfl)) ?_
 rintro _ w4 ⟨rfl, hO5, hs6⟩
 refine rl_nil <| run_ret Tryz.func67 (resW Tryz.results67 rfl Tryz.underlying123 rfl (by kernel_rfl) hO5 0 rfl) ?_
 exact ⟨rfl, hO5.below⟩
theorem Cont.congr {N n : Int} {P A S S' : Int → Int} (h : Cont N n P A S) (e : ∀ i : Int, 0 ≤ i → i < N → S i = S' i) : Cont N n P A S' :=
 ⟨fun k k0 k1 => by have := h.at_ k k0 k1; rw [← e _ this.1.1 this.1.2]; exact this, h.inj, fun i i0 i1 hi => h.all i i0 i1 (by rw [e i i0 i1]; exact hi)⟩
theorem pay_any (b B n : Nat) (N : Int) (sv : Value) (P A S : Int → Int) (x : Int) (c : Option Blk) (w0 w : World) (H : List (Option Blk)) (hn1 : 1 ≤ n) (hn : n ≤ 50) (hx0 : 0 ≤ x) (hx1 : x ≤ A 0) (hA : A 0 ≤ 1000000000) (hH : HP n P A) (hC : Cont N n P A S) (hO : Own B w0 w (c :: some (lch b 119 [sv]) :: H)) (hr : SRow sv 123 2 n (hpG P A) c) :
  Calls Tryz.prog 68 #[(.iface 115 (.pointer (some ⟨b, 0, none⟩))), .int .i64 x] w fun e w' => e = .returned (.tuple #[]) ∧ ∃ (n' : Nat) (sv' : Value) (P' A' : Int → Int) (c' : Option Blk), n' ≤ n ∧ Own B w0 w' (c' :: some (lch b 119 [sv']) :: H) ∧ SRow sv' 123 2 n' (hpG P' A') c' ∧ HP n' P' A' ∧ Cont N n' P' A' (upd S (P 0) (A 0 - x)) := by
 obtain ⟨ao, cap, rfl⟩ := Row.val hr
 have h0 := hC.at_ 0 (by omega) (by omega)
 refine calls_of_run (F := [(0, _), (1, _)]) Tryz.func68 rfl Tryz.ntmps68 rfl rfl <| run_seq <| run_region <| rl_v rfl rfl rfl (ov_move rfl rfl) ?_
 refine rl_call callable_81 rfl rfl rfl rfl rfl rfl (heapPop_any b B n cap ao P A c w0 _ H hn1 hn hH hO hr) (fun e1 w2 hp3 => ?_)
 obtain ⟨rfl, sv1, P1, A1, c1, hO1, hr1, hH1, hC1⟩ := hp3
 refine ⟨_, rfl, ?_⟩
 refine rl_v rfl rfl rfl (ov_assert rfl Tryz.underlying123 rfl rfl) <| rl_ow rfl (ow_alloc _ rfl rfl rfl zero_123 rfl hO1) ?_
 rintro _ w4 ⟨b4, rfl, hO5, hs6⟩
 refine rl_ow rfl (ow_storeW rfl rfl (by kernel_rfl) hO5 0 rfl rfl (by rfl) rfl (by rfl)) ?_
 rintro _ w7 ⟨rfl, hO8, hs9⟩
 refine rl_nil <| run_seq <| run_region <| rl_v rfl rfl rfl (ov_fieldS rfl Tryz.underlying123 rfl (fo := 1) rfl (by kernel_rfl) rfl) ?_
 refine rl_v rfl rfl rfl (ov_load rfl Tryz.underlying2 rfl rfl (by exact hO8.cellL 0 rfl rfl)) ?_
 refine rl_v rfl rfl rfl (ov_move rfl rfl) <| rl_v rfl rfl rfl (ov_sub rfl rfl rfl (by omega)) ?_
 refine rl_v rfl rfl rfl (ov_fieldS rfl Tryz.underlying123 rfl (fo := 1) rfl (by kernel_rfl) rfl) ?_
 refine rl_ow rfl (ow_storeL rfl rfl (by kernel_rfl) hO8 0 rfl rfl rfl rfl rfl) ?_
 rintro _ w10 ⟨rfl, hO11, hs12⟩
 refine rl_nil <| run_seq <| run_region <| rl_v rfl rfl rfl (ov_fieldS rfl Tryz.underlying123 rfl (fo := 1) rfl (by kernel_rfl) rfl) ?_
 refine rl_v rfl rfl rfl (ov_load rfl Tryz.underlying2 rfl rfl (by exact hO11.cellL 0 rfl rfl)) ?_
 refine rl_v rfl rfl rfl (ov_gtr rfl rfl rfl) <| rl_nil ?_
 first | refine run_cond_dec rfl (fun h3 => ?_) (fun h3 => ?_) | refine run_cond rfl (fun h3 => ?_) (fun h3 => ?_)
 ·have hO5 := hO11.tail
  have hC2 := hC1 N S hC
  refine run_region <| rl_v rfl rfl rfl (ov_move rfl rfl) <| rl_v rfl rfl rfl (ov_loadW rfl Tryz.underlying123 rfl (by kernel_rfl) rfl hO11 0 rfl) ?_
  refine rl_v rfl rfl rfl (ov_iface rfl Tryz.underlying123 (by intro _ h; cases h) rfl) ?_
  refine rl_call callable_65 rfl rfl rfl rfl rfl rfl (heapPush_any b B (n - 1) sv1 P1 A1 (P 0) (A 0 - x) c1 w0 _ H (by omega) hH1 hO11.tail hr1) (fun e13 w14 hp15 => ?_)
  obtain ⟨rfl, sv2, P2, A2, c2, hO2, hr2, hH2, hC3⟩ := hp15
  refine ⟨_, rfl, ?_⟩
  refine rl_nil <| run_end Tryz.func68 (res0 Tryz.results68) ?_
  exact ⟨rfl, n - 1 + 1, sv2, P2, A2, c2, by omega, hO2, hr2, by rw [Int.natCast_add]; exact hH2, by rw [Int.natCast_add]; exact (hC3 N _ h0.1.1 h0.1.2 (upd_same _ _ _) (by omega) hC2).congr fun i _ _ => by unfold upd; split <;> rfl⟩
 ·refine run_skip <| run_end Tryz.func68 (res0 Tryz.results68) ?_
  exact ⟨rfl, n - 1, sv1, P1, A1, c1, by omega, hO11.tail, hr1, hH1, (hC1 N S hC).congr fun i _ _ => by unfold upd; split; omega; rfl⟩
theorem Own.swap2 {B : Nat} {w0 w : World} {a b c d : Option Blk} {H : List (Option Blk)} (h : Own B w0 w (a :: b :: c :: d :: H)) : Own B w0 w (c :: d :: a :: b :: H) :=
 h.perm ((List.perm_append_comm (l₁ := [a, b]) (l₂ := [c, d])).append_right H)
noncomputable def trG (n : Nat) (p : Int → Int) : Int → List Value := fun k => [.int .i64 (payer n (stP n p k.toNat)), .int .i64 (getter n (stP n p k.toNat)), .int .i64 (moved n (stP n p k.toNat))]
end Go.Proofs.YtlldeifbfpmbaaaGreat
