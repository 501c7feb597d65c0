import Derived.Test.YtbepolognfdkeaaGreatCirc
import Derived.Test.YtbepolognfdkeaaGreatBits
namespace Go.Proofs.YtbepolognfdkeaaGreat
def tw (e : Int) : Int := if e % 2 = 0 then e + 1 else e - 1
def push (lf : Int → Int) (e m : Int) : Int → Int := upd (upd lf e (lf e - m)) (tw e) (upd lf e (lf e - m) (tw e) + m)
def xfN (n : Int) (lf : Int → Int) (i j : Int) : Int := lf (2 * (i * n + j) + 1)
theorem tw_ne (e : Int) : tw e ≠ e := by unfold tw; split <;> omega
theorem push_self (lf : Int → Int) (e m : Int) : push lf e m e = lf e - m := by
 unfold push; rw [upd_ne _ _ (tw_ne e).symm, upd_same]
theorem push_tw (lf : Int → Int) (e m : Int) : push lf e m (tw e) = lf (tw e) + m := by
 unfold push; rw [upd_same, upd_ne _ _ (tw_ne e)]
theorem push_ne (lf : Int → Int) (e m : Int) {k : Int} (h1 : k ≠ e) (h2 : k ≠ tw e) : push lf e m k = lf k := by
 unfold push; rw [upd_ne _ _ h2, upd_ne _ _ h1]
theorem push_ge (lf : Int → Int) (e m : Int) (hm : 0 ≤ m) {k : Int} (h1 : k ≠ e) : lf k ≤ push lf e m k := by
 by_cases h2 : k = tw e
 ·rw [h2, push_tw]; omega
 ·rw [push_ne lf e m h1 h2]; exact Int.le_refl _
theorem push_pair (lf : Int → Int) (e m p : Int) : push lf e m (2 * p) + push lf e m (2 * p + 1) = lf (2 * p) + lf (2 * p + 1) := by
 by_cases h1 : e = 2 * p
 ·have ht : tw e = 2 * p + 1 := by unfold tw; rw [if_pos (by omega)]; omega
  subst h1
  have a := push_self lf (2 * p) m
  have b := push_tw lf (2 * p) m
  rw [ht] at b; omega
 ·by_cases h2 : e = 2 * p + 1
  ·have ht : tw e = 2 * p := by unfold tw; rw [if_neg (by omega)]; omega
   subst h2
   have a := push_self lf (2 * p + 1) m
   have b := push_tw lf (2 * p + 1) m
   rw [ht] at b; omega
  ·rw [push_ne lf e m (by omega) (by unfold tw; split <;> omega), push_ne lf e m (by omega) (by unfold tw; split <;> omega)]
theorem pair_inj {n i j i' j' : Int} (hj : 0 ≤ j) (hjn : j < n) (hj' : 0 ≤ j') (hjn' : j' < n) (h : i * n + j = i' * n + j') : i = i' ∧ j = j' := by
 obtain ⟨a, b⟩ := pair_div (i := i) hj hjn
 obtain ⟨a', b'⟩ := pair_div (i := i') hj' hjn'
 rw [h] at a b
 exact ⟨by omega, by omega⟩
theorem pair_split {n p : Int} (hn : 0 < n) (h0 : 0 ≤ p) (h1 : p < n * n) : 0 ≤ p / n ∧ p / n < n ∧ 0 ≤ p % n ∧ p % n < n ∧ p / n * n + p % n = p := by
 refine ⟨Int.ediv_nonneg h0 (by omega), Int.ediv_lt_of_lt_mul hn h1, Int.emod_nonneg _ (by omega), Int.emod_lt_of_pos _ hn, ?_⟩
 have := Int.mul_ediv_add_emod p n
 rw [Int.mul_comm n] at this
 exact this
theorem xf_push {n : Int} (lf : Int → Int) (e m : Int) (hn : 0 < n) (h0 : 0 ≤ e) (h1 : e < 2 * (n * n)) {i j : Int} (hj : 0 ≤ j) (hjn : j < n) :
  xfN n (push lf e m) i j = if i = e / 2 / n ∧ j = e / 2 % n then xfN n lf i j + m * agn e else xfN n lf i j := by
 obtain ⟨a0, a1, a2, a3, a4⟩ := pair_split hn (show 0 ≤ e / 2 by omega) (show e / 2 < n * n by omega)
 by_cases hp : i = e / 2 / n ∧ j = e / 2 % n
 ·rw [if_pos hp]
  have hk : i * n + j = e / 2 := by rw [hp.1, hp.2]; exact a4
  unfold xfN agn
  rw [hk]
  by_cases hev : e % 2 = 0
  ·rw [if_pos hev]
   have ht : tw e = 2 * (e / 2) + 1 := by unfold tw; rw [if_pos hev]; omega
   rw [← ht, push_tw]; omega
  ·rw [if_neg hev]
   have ht : e = 2 * (e / 2) + 1 := by omega
   rw [← ht, push_self]; omega
 ·rw [if_neg hp]
  have hk : i * n + j ≠ e / 2 := fun h => hp (by rw [← a4] at h; exact pair_inj hj hjn a2 a3 h)
  unfold xfN
  rw [push_ne lf e m (by omega) (by unfold tw; split <;> omega)]
def outs (n : Int) (lf : Int → Int) (v : Int) : Int := sm (fun j => xfN n lf v j) n
def ins (n : Int) (lf : Int → Int) (v : Int) : Int := sm (fun i => xfN n lf i v) n
def amt (n : Int) (lf : Int → Int) : Int := sm (fun i => sm (fun j => xfN n lf i j) n) n
def isv (v y : Int) : Int := if y = v then 1 else 0
section
variable {n : Int} {lf : Int → Int} {e m : Int}
theorem outs_push (hn : 0 < n) (h0 : 0 ≤ e) (h1 : e < 2 * (n * n)) (v : Int) (_ : 0 ≤ v) (_ : v < n) : outs n (push lf e m) v = outs n lf v + (if v = e / 2 / n then m * agn e else 0) := by
 obtain ⟨a0, a1, a2, a3, a4⟩ := pair_split hn (show 0 ≤ e / 2 by omega) (show e / 2 < n * n by omega)
 unfold outs
 split
 ·rename_i h
  rw [sm_congr (g := upd (fun j => xfN n lf v j) (e / 2 % n) (xfN n lf v (e / 2 % n) + m * agn e)) (fun j hj hjn => by
   rw [xf_push lf e m hn h0 h1 hj hjn]
   unfold upd
   by_cases hj2 : j = e / 2 % n
   ·rw [if_pos ⟨h, hj2⟩, if_pos hj2, hj2]
   ·rw [if_neg (fun h => hj2 h.2), if_neg hj2]), sm_upd _ _ _ a2 a3]
  omega
 ·rename_i h
  rw [sm_congr (g := fun j => xfN n lf v j) (fun j hj hjn => by rw [xf_push lf e m hn h0 h1 hj hjn, if_neg (fun h' => h h'.1)])]
  omega
theorem ins_push (hn : 0 < n) (h0 : 0 ≤ e) (h1 : e < 2 * (n * n)) (v : Int) (hv : 0 ≤ v) (hvn : v < n) : ins n (push lf e m) v = ins n lf v + (if v = e / 2 % n then m * agn e else 0) := by
 obtain ⟨a0, a1, a2, a3, a4⟩ := pair_split hn (show 0 ≤ e / 2 by omega) (show e / 2 < n * n by omega)
 unfold ins
 split
 ·rename_i h
  rw [sm_congr (g := upd (fun i => xfN n lf i v) (e / 2 / n) (xfN n lf (e / 2 / n) v + m * agn e)) (fun i hi hin => by
   rw [xf_push lf e m hn h0 h1 hv hvn]
   unfold upd
   by_cases hi2 : i = e / 2 / n
   ·rw [if_pos ⟨hi2, h⟩, if_pos hi2, hi2]
   ·rw [if_neg (fun h => hi2 h.1), if_neg hi2]), sm_upd _ _ _ a0 a1]
  omega
 ·rename_i h
  rw [sm_congr (g := fun i => xfN n lf i v) (fun i hi hin => by rw [xf_push lf e m hn h0 h1 hv hvn, if_neg (fun h' => h h'.2)])]
  omega
theorem amt_push (hn : 0 < n) (h0 : 0 ≤ e) (h1 : e < 2 * (n * n)) : amt n (push lf e m) = amt n lf + m * agn e := by
 obtain ⟨a0, a1, a2, a3, a4⟩ := pair_split hn (show 0 ≤ e / 2 by omega) (show e / 2 < n * n by omega)
 have h := fun v hv hvn => outs_push (lf := lf) (m := m) hn h0 h1 v hv hvn
 unfold outs at h
 unfold amt
 rw [sm_congr (g := upd (fun i => sm (fun j => xfN n lf i j) n) (e / 2 / n) (sm (fun j => xfN n lf (e / 2 / n) j) n + m * agn e)) (fun i hi hin => by
  rw [h i hi hin]
  unfold upd
  by_cases hi2 : i = e / 2 / n
  ·rw [if_pos hi2, if_pos hi2, hi2]
  ·rw [if_neg hi2, if_neg hi2]; exact Int.add_zero _), sm_upd _ _ _ a0 a1]
 show _ - sm (fun j => xfN n lf (e / 2 / n) j) n + _ = _
 omega
theorem net_push (hn : 0 < n) (h0 : 0 ≤ e) (h1 : e < 2 * (n * n)) (v : Int) (hv : 0 ≤ v) (hvn : v < n) :
  outs n (push lf e m) v - ins n (push lf e m) v = outs n lf v - ins n lf v + m * (isv v (afr n e) - isv v (ato n e)) := by
 rw [outs_push hn h0 h1 v hv hvn, ins_push hn h0 h1 v hv hvn]
 unfold isv afr ato agn
 by_cases hev : e % 2 = 0
 ·simp only [hev, if_true]
  by_cases ha : v = e / 2 / n
  ·by_cases hb : v = e / 2 % n
   ·rw [if_pos ha, if_pos hb, if_pos ha.symm, if_pos hb.symm]; omega
   ·rw [if_pos ha, if_neg hb, if_pos ha.symm, if_neg (fun h => hb h.symm)]; omega
  ·by_cases hb : v = e / 2 % n
   ·rw [if_neg ha, if_pos hb, if_neg (fun h => ha h.symm), if_pos hb.symm]; omega
   ·rw [if_neg ha, if_neg hb, if_neg (fun h => ha h.symm), if_neg (fun h => hb h.symm)]; omega
 ·simp only [hev, if_false]
  by_cases ha : v = e / 2 / n
  ·by_cases hb : v = e / 2 % n
   ·rw [if_pos ha, if_pos hb, if_pos hb.symm, if_pos ha.symm]; omega
   ·rw [if_pos ha, if_neg hb, if_neg (fun h => hb h.symm), if_pos ha.symm]; omega
  ·by_cases hb : v = e / 2 % n
   ·rw [if_neg ha, if_pos hb, if_pos hb.symm, if_neg (fun h => ha h.symm)]; omega
   ·rw [if_neg ha, if_neg hb, if_neg (fun h => hb h.symm), if_neg (fun h => ha h.symm)]; omega
end
structure Flow (n : Nat) (D : Int → Int → Int) (lf : Int → Int) : Prop where
 nn : ∀ e : Int, 0 ≤ e → e < 2 * ((n : Int) * n) → 0 ≤ lf e
 pr : ∀ i j : Int, 0 ≤ i → i < n → 0 ≤ j → j < n → lf (2 * (i * n + j)) + lf (2 * (i * n + j) + 1) = D i j
 cons : ∀ v : Int, 0 ≤ v → v < n → outs n lf v = ins n lf v
structure Pushed (n : Nat) (D : Int → Int → Int) (es xs : Nat → Int) (q : Nat) (m a0 : Int) (j : Nat) (lf : Int → Int) : Prop where
 nn : ∀ e : Int, 0 ≤ e → e < 2 * ((n : Int) * n) → 0 ≤ lf e
 pr : ∀ i j : Int, 0 ≤ i → i < n → 0 ≤ j → j < n → lf (2 * (i * n + j)) + lf (2 * (i * n + j) + 1) = D i j
 cons : ∀ v : Int, 0 ≤ v → v < n → outs n lf v - ins n lf v = m * (isv v (xs j) - isv v (xs 0))
 room : ∀ i, j ≤ i → i < q → m ≤ lf (es i)
 am : amt n lf = a0 + m * sumTo (fun i => agn (es i.toNat)) j
theorem Pushed.step {n : Nat} {D : Int → Int → Int} {es xs : Nat → Int} {q : Nat} {m a0 : Int} {j : Nat} {lf : Int → Int} (h : Pushed n D es xs q m a0 j lf) (hn : 1 ≤ n) (hm : 0 ≤ m) (hj : j < q)
  (hes : ∀ i, i < q → 0 ≤ es i ∧ es i < 2 * ((n : Int) * n) ∧ ato n (es i) = xs i ∧ afr n (es i) = xs (i + 1)) (hne : ∀ i k, i < k → k < q → es i ≠ es k) : Pushed n D es xs q m a0 (j + 1) (push lf (es j) m) := by
 obtain ⟨h0, h1, h2, h3⟩ := hes j hj
 have hn' : (0 : Int) < n := by omega
 have hr := h.room j (Nat.le_refl _) hj
 refine ⟨fun e e0 e1 => ?_, fun i k i0 i1 k0 k1 => ?_, fun v v0 v1 => ?_, fun i hi hiq => ?_, ?_⟩
 ·by_cases he : e = es j
  ·rw [he, push_self]; omega
  ·have := push_ge lf (es j) m hm he
   have := h.nn e e0 e1
   omega
 ·rw [push_pair]; exact h.pr i k i0 i1 k0 k1
 ·rw [net_push hn' h0 h1 v v0 v1, h.cons v v0 v1, h2, h3, ← Int.mul_add]
  congr 1
  omega
 ·have := push_ge lf (es j) m hm (k := es i) (fun e => hne j i (by omega) hiq e.symm)
  have := h.room i (by omega) hiq
  omega
 ·rw [amt_push hn' h0 h1, h.am]
  simp only [sumTo, Int.toNat_natCast, Int.mul_add]
  omega
theorem Pushed.start {n : Nat} {D : Int → Int → Int} {es xs : Nat → Int} {q : Nat} {m : Int} {lf : Int → Int} (h : Flow n D lf) (hr : ∀ i, i < q → m ≤ lf (es i)) : Pushed n D es xs q m (amt n lf) 0 lf :=
 ⟨h.nn, h.pr, fun v v0 v1 => by have := h.cons v v0 v1; simp; omega, fun i _ hi => hr i hi, by simp [sumTo]⟩
theorem Pushed.done {n : Nat} {D : Int → Int → Int} {es xs : Nat → Int} {q : Nat} {m a0 : Int} {lf : Int → Int} (h : Pushed n D es xs q m a0 q lf) (hx : xs q = xs 0) (hm : 1 ≤ m) (hg : 1 ≤ sumTo (fun i => agn (es i.toNat)) q) : Flow n D lf ∧ a0 + 1 ≤ amt n lf := by
 refine ⟨⟨h.nn, h.pr, fun v v0 v1 => ?_⟩, ?_⟩
 ·have := h.cons v v0 v1
  rw [hx] at this
  simp at this
  omega
 ·rw [h.am]
  have := Int.mul_le_mul hm hg (by omega) (by omega)
  omega
theorem Flow.le {n : Nat} {D : Int → Int → Int} {lf : Int → Int} (h : Flow n D lf) (i j : Int) (i0 : 0 ≤ i) (i1 : i < n) (j0 : 0 ≤ j) (j1 : j < n) : 0 ≤ xfN n lf i j ∧ xfN n lf i j ≤ D i j := by
 have hk : i * (n : Int) + j < (n : Int) * n := by
  have : (i + 1) * (n : Int) ≤ (n : Int) * n := Int.mul_le_mul_of_nonneg_right (by omega) (by omega)
  rw [Int.add_mul, Int.one_mul] at this
  omega
 have hk0 : 0 ≤ i * (n : Int) := Int.mul_nonneg i0 (by omega)
 have h1 := h.nn (2 * (i * n + j)) (by omega) (by omega)
 have h2 := h.nn (2 * (i * n + j) + 1) (by omega) (by omega)
 have h3 := h.pr i j i0 i1 j0 j1
 unfold xfN
 omega
structure Circ (n : Nat) (D x : Int → Int → Int) : Prop where
 lo : ∀ i j : Int, 0 ≤ i → i < n → 0 ≤ j → j < n → 0 ≤ x i j
 hi : ∀ i j : Int, 0 ≤ i → i < n → 0 ≤ j → j < n → x i j ≤ D i j
 cons : ∀ v : Int, 0 ≤ v → v < n → sm (fun j => x v j) n = sm (fun i => x i v) n
theorem Flow.circ {n : Nat} {D : Int → Int → Int} {lf : Int → Int} (h : Flow n D lf) : Circ n D (xfN n lf) :=
 ⟨fun i j a b c d => (h.le i j a b c d).1, fun i j a b c d => (h.le i j a b c d).2, h.cons⟩
def total (n : Nat) (x : Int → Int → Int) : Int := sm (fun i => sm (fun j => x i j) n) n
theorem Circ.ranks {n : Nat} {D x : Int → Int → Int} (h : Circ n D x) (rk : Int → Int) : sm (fun i => sm (fun j => x i j * (1 + rk i - rk j)) n) n = total n x := by
 have e : ∀ i j, x i j * (1 + rk i - rk j) = x i j + (rk i * x i j - rk j * x i j) := fun i j => by
  rw [Int.mul_sub, Int.mul_add, Int.mul_one, Int.mul_comm (x i j) (rk i), Int.mul_comm (x i j) (rk j)]; omega
 have h1 : sm (fun i => sm (fun j => x i j * (1 + rk i - rk j)) n) n = sm (fun i => sm (fun j => x i j) n + (rk i * sm (fun j => x i j) n - sm (fun j => rk j * x i j) n)) n :=
  sm_congr fun i _ _ => by simp only [e]; rw [sm_add, sm_sub, sm_mul]
 rw [h1, sm_add (fun i => sm (fun j => x i j) n), sm_sub (fun i => rk i * sm (fun j => x i j) n)]
 unfold total
 have e2 : sm (fun i => sm (fun j => rk j * x i j) n) n = sm (fun i => rk i * sm (fun j => x i j) n) n := by
  rw [sm_swap]
  refine sm_congr fun j hj hjn => ?_
  rw [sm_mul, ← h.cons j hj hjn]
 rw [e2]; omega
theorem Flow.strong {n : Nat} {D : Int → Int → Int} {lf h : Int → Int} (H : Flow n D lf) (hc : ∀ e : Int, 0 ≤ e → e < 2 * ((n : Int) * n) → 0 < lf e → h (afr n e) + agn e ≤ h (ato n e)) : bnd n D h = amt n lf := by
 rw [show amt n lf = total n (xfN n lf) from rfl, ← H.circ.ranks h]
 unfold bnd
 refine sm_congr fun i i0 i1 => sm_congr fun j j0 j1 => ?_
 have hk : i * (n : Int) + j < (n : Int) * n := by
  have : (i + 1) * (n : Int) ≤ (n : Int) * n := Int.mul_le_mul_of_nonneg_right (by omega) (by omega)
  rw [Int.add_mul, Int.one_mul] at this
  omega
 have hk0 : 0 ≤ i * (n : Int) := Int.mul_nonneg i0 (by omega)
 obtain ⟨d1, d2⟩ := pair_div (i := i) j0 j1
 obtain ⟨g1, g2, g3, g4⟩ := even_half (i * n + j)
 have p1 := H.nn (2 * (i * n + j)) (by omega) (by omega)
 have p2 := H.nn (2 * (i * n + j) + 1) (by omega) (by omega)
 have p3 := H.pr i j i0 i1 j0 j1
 have c1 := hc (2 * (i * n + j)) (by omega) (by omega)
 have c2 := hc (2 * (i * n + j) + 1) (by omega) (by omega)
 have hne : ¬ ((1 : Int) = 0) := by omega
 simp only [afr, ato, agn, g1, g2, g3, g4, d1, d2, hne, if_true, if_false] at c1 c2
 unfold term xfN
 by_cases z1 : lf (2 * (i * n + j)) = 0
 ·by_cases z2 : lf (2 * (i * n + j) + 1) = 0
  ·rw [← p3, z1, z2]; simp
  ·have := c2 (by omega)
   rw [← p3, z1, show max 0 (1 + h i - h j) = 1 + h i - h j by omega, Int.zero_add]
 ·have := c1 (by omega)
  by_cases z2 : lf (2 * (i * n + j) + 1) = 0
  ·rw [z2, show max 0 (1 + h i - h j) = 0 by omega]; simp
  ·have := c2 (by omega)
   rw [show 1 + h i - h j = 0 by omega]; simp
theorem chain_ok {n : Nat} {M : Int} {fr to gn lf h l τ : Int → Int} (H : Back n M fr to gn lf h l τ) (hM : 0 ≤ M) (on : Int) (h0 : 0 ≤ on) (h1 : on < n) (ht : n * M + 1 ≤ τ on) :
  ∀ i : Nat, i ≤ n → (0 ≤ bk fr l on i ∧ bk fr l on i < n) ∧ 0 ≤ l (bk fr l on i) ∧ l (bk fr l on i) < M := by
 have hMi : ∀ i : Nat, i ≤ n → (n : Int) * M - (i : Int) * M + 1 ≥ 1 := fun i hi => by
  have : (i : Int) * M ≤ (n : Int) * M := Int.mul_le_mul_of_nonneg_right (by omega) hM
  omega
 have chain : ∀ i : Nat, i ≤ n → (n : Int) * M - (i : Int) * M + 1 ≤ τ (bk fr l on i) := by
  intro i
  induction i with
  | zero => intro _; simp only [bk]; simp; omega
  | succ i ih =>
   intro hi
   have h2 := ih (by omega)
   have h3 := hMi i (by omega)
   have h4 := (H.at_ _ (show 1 ≤ τ (bk fr l on i) by omega)).2.2.2.2.1
   have e : ((i + 1 : Nat) : Int) * M = (i : Int) * M + M := by rw [Int.natCast_add, Int.add_mul]; simp
   rw [e]
   show _ ≤ τ (fr (l (bk fr l on i)))
   omega
 intro i hi
 have h2 := chain i hi
 have h3 := hMi i hi
 have h4 := H.at_ _ (show 1 ≤ τ (bk fr l on i) by omega)
 refine ⟨?_, h4.1, h4.2.1⟩
 cases i with
 | zero => exact ⟨h0, h1⟩
 | succ i =>
  have h2 := chain i (by omega)
  have h3 := hMi i (by omega)
  have := H.at_ _ (show 1 ≤ τ (bk fr l on i) by omega)
  exact H.fr_ _ this.1 this.2.1
def mnl (lf : Nat → Int) : Nat → Int
 | 0 => 32000000
 | j + 1 => min (mnl lf j) (lf j)
theorem mnl_le (lf : Nat → Int) : ∀ q i, i < q → mnl lf q ≤ lf i := by
 intro q
 induction q with
 | zero => intro i hi; omega
 | succ q ih =>
  intro i hi
  unfold mnl
  by_cases h : i = q
  ·subst h; omega
  ·have := ih i (by omega); omega
theorem mnl_pos (lf : Nat → Int) : ∀ q, (∀ i, i < q → 1 ≤ lf i) → 1 ≤ mnl lf q := by
 intro q
 induction q with
 | zero => intro _; simp [mnl]
 | succ q ih =>
  intro h
  have := ih (fun i hi => h i (by omega))
  have := h q (by omega)
  unfold mnl; omega
theorem arc_rng {n : Nat} {e : Int} (hn : 1 ≤ n) (h0 : 0 ≤ e) (h1 : e < 2 * ((n : Int) * n)) : (0 ≤ afr n e ∧ afr n e < n) ∧ (0 ≤ ato n e ∧ ato n e < n) ∧ -1 ≤ agn e ∧ agn e ≤ 1 := by
 obtain ⟨a0, a1, a2, a3, a4⟩ := pair_split (n := n) (show 0 < (n : Int) by omega) (show 0 ≤ e / 2 by omega) (show e / 2 < (n : Int) * n by omega)
 unfold afr ato agn
 split <;> omega
theorem arc_set (fr to lf gn : Int → Int) (e x : Int) : upd (arcL fr to lf gn) e ((arcL fr to lf gn e).set 2 (.int .i64 x)) = arcL fr to (upd lf e x) gn := by
 funext i
 by_cases h : i = e
 ·subst h
  rw [upd_same]
  show _ = arcL fr to (upd lf i x) gn i
  simp only [arcL, upd_same]
  rfl
 ·rw [upd_ne _ _ h]
  simp only [arcL, upd_ne _ _ h]
theorem Flow.top {n : Nat} {D : Int → Int → Int} {lf : Int → Int} (h : Flow n D lf) : amt n lf ≤ total n D := sm_le fun i i0 i1 => sm_le fun j j0 j1 => (h.le i j i0 i1 j0 j1).2
theorem Pushed.rng {n : Nat} {D : Int → Int → Int} {es xs : Nat → Int} {q : Nat} {m a0 : Int} {j : Nat} {lf : Int → Int} (h : Pushed n D es xs q m a0 j lf) (hn : 1 ≤ n) (hD : ∀ i j, D i j ≤ 1000000) {e : Int} (h0 : 0 ≤ e) (h1 : e < 2 * ((n : Int) * n)) : 0 ≤ lf e ∧ lf e ≤ 1000000 := by
 obtain ⟨a0, a1, a2, a3, a4⟩ := pair_split (n := n) (show 0 < (n : Int) by omega) (show 0 ≤ e / 2 by omega) (show e / 2 < (n : Int) * n by omega)
 have hp := h.pr _ _ a0 a1 a2 a3
 rw [a4] at hp
 have hd := hD (e / 2 / n) (e / 2 % n)
 have n1 := h.nn (2 * (e / 2)) (by omega) (by omega)
 have n2 := h.nn (2 * (e / 2) + 1) (by omega) (by omega)
 have n3 := h.nn e h0 h1
 refine ⟨n3, ?_⟩
 by_cases hev : e % 2 = 0
 ·rw [show e = 2 * (e / 2) by omega]; omega
 ·rw [show e = 2 * (e / 2) + 1 by omega]; omega
end Go.Proofs.YtbepolognfdkeaaGreat
