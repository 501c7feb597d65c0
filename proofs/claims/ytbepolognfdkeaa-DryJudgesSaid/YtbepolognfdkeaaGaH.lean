import Derived.Test.YtbepolognfdkeaaGaG
set_option maxRecDepth 100000
namespace Go.Proofs.Ytbepolognfdkeaa
theorem sm_one1 {f : Int → Int} {k a : Int} (a0 : 0 ≤ a) (a1 : a < k) (h : ∀ i : Int, 0 ≤ i → i < k → i ≠ a → f i = 0) : sm f k = f a := by
 have e : sm f k = sm (fun i => if a = i then f a else 0) k := sm_congr fun i i0 i1 => by
  by_cases c : a = i
  ·rw [if_pos c, c]
  ·rw [if_neg c]; exact h i i0 i1 (fun e => c e.symm)
 rw [e, sm_oneG a0 a1]
structure Built (l : Lds) (c : Nat) (X : Int → Int) (kilns : Int) (G : Net) : Prop where
 cuts : Cuts l c X
 is_ : Net.Is (l.n + (c - 1) + 2) (l.arcs X (c - 1) kilns) G
 ok : G.Ok
noncomputable def xf (G : Net) (L : Int → Int) (u v : Int) : Int := sm (fun j => L (2 * j + 1) * (ind (G.TO (2 * j + 1) = u) * ind (G.TO (2 * j) = v))) G.np
section
variable {l : Lds} {c : Nat} {X : Int → Int} {kilns : Int} {G : Net} {L : Int → Int} {fl : Int}
theorem Built.kind (h : Built l c X kilns G) {j : Int} (j0 : 0 ≤ j) (j1 : j < G.np) : Lds.Kind l X (c - 1) kilns (G.TO (2 * j + 1), G.TO (2 * j), G.CP j) := by
 obtain ⟨q, rfl⟩ := Int.eq_ofNat_of_zero_le j0
 have hq : q < (l.arcs X (c - 1) kilns).length := by have := h.is_.np; omega
 rw [h.is_.to1 q hq, h.is_.to0 q hq, h.is_.cp q hq]
 exact Lds.mem_arcs.1 (List.getElem_mem hq)
theorem Built.ex (h : Built l c X kilns G) {a : Arc} (ha : Lds.Kind l X (c - 1) kilns a) : ∃ j : Int, (0 ≤ j ∧ j < G.np) ∧ (G.TO (2 * j + 1), G.TO (2 * j), G.CP j) = a := by
 obtain ⟨q, hq, e⟩ := List.mem_iff_getElem.1 (Lds.mem_arcs.2 ha)
 refine ⟨q, ⟨by omega, by have := h.is_.np; omega⟩, ?_⟩
 rw [h.is_.to1 q hq, h.is_.to0 q hq, h.is_.cp q hq]
 exact e
theorem Built.uniq (h : Built l c X kilns G) {i j : Int} (i0 : 0 ≤ i) (i1 : i < G.np) (j0 : 0 ≤ j) (j1 : j < G.np) (e1 : G.TO (2 * i + 1) = G.TO (2 * j + 1)) (e2 : G.TO (2 * i) = G.TO (2 * j)) : i = j := by
 obtain ⟨p, rfl⟩ := Int.eq_ofNat_of_zero_le i0
 obtain ⟨q, rfl⟩ := Int.eq_ofNat_of_zero_le j0
 have hnp := h.is_.np
 have hp : p < (l.arcs X (c - 1) kilns).length := by omega
 have hq : q < (l.arcs X (c - 1) kilns).length := by omega
 rw [h.is_.to1 p hp, h.is_.to1 q hq] at e1
 rw [h.is_.to0 p hp, h.is_.to0 q hq] at e2
 have hnd := Lds.nd_arcs (l := l) (X := X) (m := c - 1) (kilns := kilns)
 have hpw := List.pairwise_iff_getElem.1 hnd
 rcases Nat.lt_trichotomy p q with a | a | a
 ·refine absurd ?_ (hpw p q (by simpa using hp) (by simpa using hq) a)
  rw [List.getElem_map, List.getElem_map]
  exact congr (congrArg Prod.mk e1) e2
 ·rw [a]
 ·refine absurd ?_ (hpw q p (by simpa using hq) (by simpa using hp) a)
  rw [List.getElem_map, List.getElem_map]
  exact (congr (congrArg Prod.mk e1) e2).symm
theorem Built.xf_at (h : Built l c X kilns G) {j : Int} (j0 : 0 ≤ j) (j1 : j < G.np) : xf G L (G.TO (2 * j + 1)) (G.TO (2 * j)) = L (2 * j + 1) := by
 unfold xf
 rw [sm_one1 j0 j1 fun i i0 i1 hne => ?_]
 ·rw [ind_t rfl, ind_t rfl]; omega
 ·by_cases a : G.TO (2 * i + 1) = G.TO (2 * j + 1)
  ·by_cases b : G.TO (2 * i) = G.TO (2 * j)
   ·exact absurd (h.uniq i0 i1 j0 j1 a b) hne
   ·rw [ind_f b]; simp
  ·rw [ind_f a]; simp
theorem xf_none {u v : Int} (h : ∀ j : Int, 0 ≤ j → j < G.np → ¬ (G.TO (2 * j + 1) = u ∧ G.TO (2 * j) = v)) : xf G L u v = 0 := sm_zeroG fun j j0 j1 => by
 by_cases a : G.TO (2 * j + 1) = u
 ·rw [ind_f fun b => h j j0 j1 ⟨a, b⟩]; simp
 ·rw [ind_f a]; simp
theorem xf_nn (hf : G.Flow L fl) (u v : Int) : 0 ≤ xf G L u v := sm_nonneg fun j j0 j1 => Int.mul_nonneg (hf.nn _ (by omega) (by omega)) (Int.mul_nonneg (ind_rng _).1 (ind_rng _).1)
theorem Built.xf_le (h : Built l c X kilns G) (hf : G.Flow L fl) {u v m : Int} (hk : Lds.Kind l X (c - 1) kilns (u, v, m)) : xf G L u v ≤ m := by
 obtain ⟨j, ⟨j0, j1⟩, e⟩ := h.ex hk
 simp only [Prod.mk.injEq] at e
 obtain ⟨e1, e2, e3⟩ := e
 rw [← e1, ← e2, h.xf_at j0 j1, ← e3]
 have := hf.cap j j0 j1
 have := hf.nn (2 * j) (by omega) (by omega)
 omega
theorem Flow.node (hf : G.Flow L fl) {t : Int} (t0 : t ≠ 0) (t1 : t ≠ G.nn - 1) : sm (fun j => L (2 * j + 1) * ind (G.TO (2 * j + 1) = t)) G.np = sm (fun j => L (2 * j + 1) * ind (G.TO (2 * j) = t)) G.np := by
 have h := hf.sum fun v => ind (v = t)
 rw [ind_f (fun e => t0 e.symm), ind_f (fun e => t1 e.symm), Int.sub_self, Int.mul_zero] at h
 have e : sm (fun j => L (2 * j + 1) * (ind (G.TO (2 * j + 1) = t) - ind (G.TO (2 * j) = t))) G.np = sm (fun j => L (2 * j + 1) * ind (G.TO (2 * j + 1) = t)) G.np - sm (fun j => L (2 * j + 1) * ind (G.TO (2 * j) = t)) G.np := by
  rw [← sm_sub]; exact sm_congr fun j _ _ => Int.mul_sub _ _ _
 rw [e] at h
 omega
theorem sm_parts {f p : Int → Int} {q : Int → Int → Int} {N M : Int} (h : ∀ j : Int, 0 ≤ j → j < N → p j = sm (q j) M) : sm (fun j => f j * p j) N = sm (fun i => sm (fun j => f j * q j i) N) M := by
 rw [sm_congr (g := fun j => sm (fun i => f j * q j i) M) fun j j0 j1 => by rw [h j j0 j1, sm_mul], sm_swap]
theorem Built.out_load (h : Built l c X kilns G) {i : Int} (i0 : 0 ≤ i) (i1 : i < l.n) : sm (fun j => L (2 * j + 1) * ind (G.TO (2 * j + 1) = 1 + i)) G.np = sm (fun k => xf G L (1 + i) (1 + (l.n : Int) + k)) ((c - 1 : Nat) : Int) := by
 rw [sm_parts (q := fun j k => ind (G.TO (2 * j + 1) = 1 + i) * ind (G.TO (2 * j) = 1 + (l.n : Int) + k)) (M := ((c - 1 : Nat) : Int)) fun j j0 j1 => ?_]
 ·rfl
 ·rcases h.kind j0 j1 with ⟨i', hi', e⟩ | ⟨i', k', hi', hk', _, e⟩ | ⟨k', hk', e⟩
  ·simp only [Prod.mk.injEq] at e
   rw [ind_f (by omega)]
   exact (sm_zeroG fun k _ _ => Int.zero_mul _).symm
  ·simp only [Prod.mk.injEq] at e
   rw [sm_mul, sm_one1 (a := k') hk'.1 hk'.2 fun k k0 k1 hne => ind_f (by omega), ind_t (p := G.TO (2 * j) = 1 + (l.n : Int) + k') (by omega), Int.mul_one]
  ·simp only [Prod.mk.injEq] at e
   rw [ind_f (by omega)]
   exact (sm_zeroG fun k _ _ => Int.zero_mul _).symm
theorem Built.in_span (h : Built l c X kilns G) {k : Int} (k0 : 0 ≤ k) (k1 : k < ((c - 1 : Nat) : Int)) : sm (fun j => L (2 * j + 1) * ind (G.TO (2 * j) = 1 + (l.n : Int) + k)) G.np = sm (fun i => xf G L (1 + i) (1 + (l.n : Int) + k)) l.n := by
 rw [sm_parts (q := fun j i => ind (G.TO (2 * j + 1) = 1 + i) * ind (G.TO (2 * j) = 1 + (l.n : Int) + k)) (M := l.n) fun j j0 j1 => ?_]
 ·rfl
 ·rcases h.kind j0 j1 with ⟨i', hi', e⟩ | ⟨i', k', hi', hk', _, e⟩ | ⟨k', hk', e⟩
  ·simp only [Prod.mk.injEq] at e
   rw [ind_f (by omega)]
   exact (sm_zeroG fun k _ _ => Int.mul_zero _).symm
  ·simp only [Prod.mk.injEq] at e
   rw [sm_congr (g := fun i => ind (G.TO (2 * j) = 1 + (l.n : Int) + k) * ind (G.TO (2 * j + 1) = 1 + i)) fun i _ _ => Int.mul_comm _ _, sm_mul, sm_one1 (a := i') hi'.1 hi'.2 fun i _ _ hne => ind_f (by omega), ind_t (p := G.TO (2 * j + 1) = 1 + i') (by omega), Int.mul_one]
  ·simp only [Prod.mk.injEq] at e
   rw [ind_f (by omega)]
   exact (sm_zeroG fun k _ _ => Int.mul_zero _).symm
theorem Built.out_src (h : Built l c X kilns G) : sm (fun j => L (2 * j + 1) * ind (G.TO (2 * j + 1) = 0)) G.np = sm (fun i => xf G L 0 (1 + i)) l.n := by
 rw [sm_parts (q := fun j i => ind (G.TO (2 * j + 1) = 0) * ind (G.TO (2 * j) = 1 + i)) (M := l.n) fun j j0 j1 => ?_]
 ·rfl
 ·rcases h.kind j0 j1 with ⟨i', hi', e⟩ | ⟨i', k', hi', hk', _, e⟩ | ⟨k', hk', e⟩
  ·simp only [Prod.mk.injEq] at e
   rw [sm_mul, sm_one1 (a := i') hi'.1 hi'.2 fun i _ _ hne => ind_f (by omega), ind_t (p := G.TO (2 * j) = 1 + i') (by omega), Int.mul_one]
  ·simp only [Prod.mk.injEq] at e
   rw [ind_f (by omega)]
   exact (sm_zeroG fun k _ _ => Int.zero_mul _).symm
  ·simp only [Prod.mk.injEq] at e
   rw [ind_f (by omega)]
   exact (sm_zeroG fun k _ _ => Int.zero_mul _).symm
theorem Built.in_load (h : Built l c X kilns G) {i : Int} (i0 : 0 ≤ i) (i1 : i < l.n) : sm (fun j => L (2 * j + 1) * ind (G.TO (2 * j) = 1 + i)) G.np = xf G L 0 (1 + i) := sm_congr fun j j0 j1 => by
 rcases h.kind j0 j1 with ⟨i', hi', e⟩ | ⟨i', k', hi', hk', _, e⟩ | ⟨k', hk', e⟩
 ·simp only [Prod.mk.injEq] at e
  rw [ind_t (p := G.TO (2 * j + 1) = 0) (by omega), Int.one_mul]
 ·simp only [Prod.mk.injEq] at e
  rw [ind_f (p := G.TO (2 * j) = 1 + i) (by omega)]; simp
 ·simp only [Prod.mk.injEq] at e
  rw [ind_f (p := G.TO (2 * j) = 1 + i) (by omega)]; simp
theorem Built.out_span (h : Built l c X kilns G) {k : Int} (k0 : 0 ≤ k) (k1 : k < ((c - 1 : Nat) : Int)) : sm (fun j => L (2 * j + 1) * ind (G.TO (2 * j + 1) = 1 + (l.n : Int) + k)) G.np = xf G L (1 + (l.n : Int) + k) ((l.n : Int) + ((c - 1 : Nat) : Int) + 1) := sm_congr fun j j0 j1 => by
 rcases h.kind j0 j1 with ⟨i', hi', e⟩ | ⟨i', k', hi', hk', _, e⟩ | ⟨k', hk', e⟩
 ·simp only [Prod.mk.injEq] at e
  rw [ind_f (p := G.TO (2 * j + 1) = 1 + (l.n : Int) + k) (by omega)]; simp
 ·simp only [Prod.mk.injEq] at e
  rw [ind_f (p := G.TO (2 * j + 1) = 1 + (l.n : Int) + k) (by omega)]; simp
 ·simp only [Prod.mk.injEq] at e
  rw [ind_t (p := G.TO (2 * j) = (l.n : Int) + ((c - 1 : Nat) : Int) + 1) (by omega), Int.mul_one]
structure Deal (l : Lds) (c : Nat) (X : Int → Int) (kilns : Int) (x : Int → Int → Int) : Prop where
 nn : ∀ i k : Int, 0 ≤ i → i < l.n → 0 ≤ k → k < ((c - 1 : Nat) : Int) → 0 ≤ x i k
 le : ∀ i k : Int, 0 ≤ i → i < l.n → 0 ≤ k → k < ((c - 1 : Nat) : Int) → x i k ≤ X (k + 1) - X k
 win : ∀ i k : Int, 0 ≤ i → i < l.n → 0 ≤ k → k < ((c - 1 : Nat) : Int) → x i k ≠ 0 → l.In X i k
 sum : ∀ i : Int, 0 ≤ i → i < l.n → sm (x i) ((c - 1 : Nat) : Int) = l.len i
 most : ∀ k : Int, 0 ≤ k → k < ((c - 1 : Nat) : Int) → sm (fun i => x i k) l.n ≤ kilns * (X (k + 1) - X k)
theorem Built.src_le (h : Built l c X kilns G) (hf : G.Flow L fl) {i : Int} (i0 : 0 ≤ i) (i1 : i < l.n) : xf G L 0 (1 + i) ≤ l.len i := h.xf_le hf (.inl ⟨i, ⟨i0, i1⟩, rfl⟩)
theorem Built.flow (h : Built l c X kilns G) (hf : G.Flow L fl) : fl = sm (fun i => xf G L 0 (1 + i)) l.n := by
 have hnn := h.is_.nn
 have h1 := hf.sum fun v => ind (v = 0)
 rw [ind_t rfl, ind_f (show ¬ ((G.nn : Int) - 1 = 0) by omega)] at h1
 rw [← h.out_src (L := L)]
 have e : sm (fun j => L (2 * j + 1) * (ind (G.TO (2 * j + 1) = 0) - ind (G.TO (2 * j) = 0))) G.np = sm (fun j => L (2 * j + 1) * ind (G.TO (2 * j + 1) = 0)) G.np := sm_congr fun j j0 j1 => by
  rw [ind_f (p := G.TO (2 * j) = 0), Int.sub_zero]
  rcases h.kind j0 j1 with ⟨i', hi', e⟩ | ⟨i', k', hi', hk', _, e⟩ | ⟨k', hk', e⟩ <;> (simp only [Prod.mk.injEq] at e; omega)
 rw [e] at h1
 omega
theorem Built.fl_le (h : Built l c X kilns G) (hf : G.Flow L fl) : fl ≤ sm l.len l.n := by
 rw [h.flow hf]
 exact sm_le fun i i0 i1 => h.src_le hf i0 i1
theorem Built.deal (h : Built l c X kilns G) (hf : G.Flow L fl) (hn : fl = sm l.len l.n) : Deal l c X kilns fun i k => xf G L (1 + i) (1 + (l.n : Int) + k) := by
 have hnn := h.is_.nn
 have key : ∀ i k : Int, 0 ≤ i → i < l.n → 0 ≤ k → k < ((c - 1 : Nat) : Int) → ¬ l.In X i k → xf G L (1 + i) (1 + (l.n : Int) + k) = 0 := fun i k i0 i1 k0 k1 hin => xf_none fun j j0 j1 ⟨a, b⟩ => by
  rcases h.kind j0 j1 with ⟨i', hi', e⟩ | ⟨i', k', hi', hk', h2, e⟩ | ⟨k', hk', e⟩
  ·simp only [Prod.mk.injEq] at e; omega
  ·simp only [Prod.mk.injEq] at e
   have e1 : i' = i := by omega
   have e2 : k' = k := by omega
   rw [e1, e2] at h2
   exact hin h2
  ·simp only [Prod.mk.injEq] at e; omega
 refine ⟨fun i k i0 i1 k0 k1 => xf_nn hf _ _, fun i k i0 i1 k0 k1 => ?_, fun i k i0 i1 k0 k1 hne => ?_, fun i i0 i1 => ?_, fun k k0 k1 => ?_⟩
 ·by_cases hin : l.In X i k
  ·exact h.xf_le hf (.inr (.inl ⟨i, k, ⟨i0, i1⟩, ⟨k0, k1⟩, hin, rfl⟩))
  ·rw [key i k i0 i1 k0 k1 hin]
   have := h.cuts.inc k (k + 1) k0 (by omega) (by omega)
   omega
 ·exact Classical.byContradiction fun hin => hne (key i k i0 i1 k0 k1 hin)
 ·rw [← h.out_load (L := L) i0 i1, Flow.node hf (by omega) (by omega), h.in_load i0 i1]
  have h1 := h.flow hf
  have h2 : ∀ i : Int, 0 ≤ i → i < l.n → xf G L 0 (1 + i) ≤ l.len i := fun i i0 i1 => h.src_le hf i0 i1
  have h3 := sm_pos (f := fun i => l.len i - xf G L 0 (1 + i)) (k := l.n) (fun i i0 i1 => by have := h2 i i0 i1; omega) i i0 i1
  rw [sm_sub] at h3
  have := h2 i i0 i1
  omega
 ·rw [← h.in_span (L := L) k0 k1, ← Flow.node hf (by omega) (by omega), h.out_span k0 k1]
  exact h.xf_le hf (.inr (.inr ⟨k, ⟨k0, k1⟩, rfl⟩))
structure CrushK (l : Lds) (c : Nat) (X : Int → Int) (kilns : Int) (S T : Int → Prop) : Prop where
 big : kilns * sm (fun k => ind (T k) * (X (k + 1) - X k)) ((c - 1 : Nat) : Int) < sm (fun i => ind (S i) * (l.len i - sm (fun k => ind (l.In X i k) * ((X (k + 1) - X k) * (1 - ind (T k)))) ((c - 1 : Nat) : Int))) l.n
theorem Built.crush (h : Built l c X kilns G) (hf : G.Flow L fl) (hn : fl < sm l.len l.n) {S : Int → Prop} (hc : G.Cut L S) : CrushK l c X kilns (fun i => S (1 + i)) (fun k => S (1 + (l.n : Int) + k)) := by
 have hnn := h.is_.nn
 have h1 := Net.Cut.flow hf hc
 have h2 := is_sum h.is_ (fun a => a.2.2 * (ind (S a.1) * (1 - ind (S a.2.1))))
 dsimp only at h2
 rw [h2, Lds.sL_arcs] at h1
 dsimp only at h1
 have hs : ¬ S ((l.n : Int) + ((c - 1 : Nat) : Int) + 1) := by
  have e : (l.n : Int) + ((c - 1 : Nat) : Int) + 1 = G.nn - 1 := by omega
  rw [e]; exact hc.snk
 have a1 : sm (fun i => l.len i * (ind (S 0) * (1 - ind (S (1 + i))))) l.n = sm l.len l.n - sm (fun i => ind (S (1 + i)) * l.len i) l.n := by
  rw [← sm_sub]
  exact sm_congr fun i _ _ => by rw [ind_t hc.src, Int.one_mul, Int.mul_sub, Int.mul_one, Int.mul_comm (l.len i) (ind _)]
 have a2 : sm (fun i => sm (fun k => ind (l.In X i k) * ((X (k + 1) - X k) * (ind (S (1 + i)) * (1 - ind (S (1 + (l.n : Int) + k)))))) ((c - 1 : Nat) : Int)) l.n = sm (fun i => ind (S (1 + i)) * sm (fun k => ind (l.In X i k) * ((X (k + 1) - X k) * (1 - ind (S (1 + (l.n : Int) + k))))) ((c - 1 : Nat) : Int)) l.n := sm_congr fun i _ _ => by
  rw [← sm_mul]
  exact sm_congr fun k _ _ => by
   rw [Int.mul_left_comm (X (k + 1) - X k), Int.mul_left_comm (ind (l.In X i k))]
 have a3 : sm (fun k => kilns * (X (k + 1) - X k) * (ind (S (1 + (l.n : Int) + k)) * (1 - ind (S ((l.n : Int) + ((c - 1 : Nat) : Int) + 1))))) ((c - 1 : Nat) : Int) = kilns * sm (fun k => ind (S (1 + (l.n : Int) + k)) * (X (k + 1) - X k)) ((c - 1 : Nat) : Int) := by
  rw [← sm_mul]
  exact sm_congr fun k _ _ => by rw [ind_f hs, Int.sub_zero, Int.mul_one, Int.mul_assoc, Int.mul_comm (X (k + 1) - X k)]
 rw [a1, a2, a3] at h1
 refine ⟨?_⟩
 rw [sm_congr (g := fun i => ind (S (1 + i)) * l.len i - ind (S (1 + i)) * sm (fun k => ind (l.In X i k) * ((X (k + 1) - X k) * (1 - ind (S (1 + (l.n : Int) + k))))) ((c - 1 : Nat) : Int)) fun i _ _ => Int.mul_sub _ _ _, sm_sub]
 omega
end
end Go.Proofs.Ytbepolognfdkeaa
