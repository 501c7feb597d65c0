import Derived.Test.YtbepolognfdkeaaGreatGaF
set_option maxRecDepth 100000
namespace Go.Proofs.YtbepolognfdkeaaGreat
structure Cuts (l : Lds) (c : Nat) (X : Int → Int) : Prop where
 inc : ∀ a b : Int, 0 ≤ a → a < b → b < c → X a < X b
 mem : ∀ t : Int, (∃ j : Int, (0 ≤ j ∧ j < c) ∧ X j = t) ↔ ∃ i : Int, (0 ≤ i ∧ i < l.n) ∧ (t = l.r i ∨ t = l.d i)
 le : c ≤ 2 * l.n
abbrev Arc := Int × Int × Int
def sL (φ : Arc → Int) : List Arc → Int
 | [] => 0
 | a :: A => φ a + sL φ A
theorem sL_app (φ : Arc → Int) : ∀ A B : List Arc, sL φ (A ++ B) = sL φ A + sL φ B
 | [], B => by show sL φ B = 0 + sL φ B; omega
 | a :: A, B => by show φ a + sL φ (A ++ B) = φ a + sL φ A + sL φ B; rw [sL_app φ A B]; omega
theorem sL_take (φ : Arc → Int) (A : List Arc) (f : Int → Int) (h : ∀ j : Nat, ∀ hj : j < A.length, f j = φ A[j]) : ∀ k : Nat, k ≤ A.length → sm f k = sL φ (A.take k)
 | 0, _ => by rw [show ((0 : Nat) : Int) = 0 from rfl, sm_zero, List.take_zero]; rfl
 | k + 1, hk => by
  have hk2 : k < A.length := by omega
  rw [show ((k + 1 : Nat) : Int) = (k : Int) + 1 by omega, sm_succ _ (by omega), sL_take φ A f h k (by omega), h k hk2, List.take_add_one, List.getElem?_eq_getElem hk2, sL_app]
  show _ + φ A[k] = _ + (φ A[k] + 0)
  omega
theorem is_sum {nn : Nat} {A : List Arc} {G : Net} (h : Net.Is nn A G) (φ : Arc → Int) : sm (fun j => φ (G.TO (2 * j + 1), G.TO (2 * j), G.CP j)) G.np = sL φ A := by
 rw [h.np, sL_take φ A _ (fun j hj => by
  show φ (G.TO (2 * (j : Int) + 1), G.TO (2 * (j : Int)), G.CP j) = _
  rw [h.to1 j hj, h.to0 j hj, h.cp j hj]) A.length (Nat.le_refl _), List.take_length]
namespace Lds
section
variable (l : Lds) (X : Int → Int) (m : Nat) (kilns : Int)
def In (i k : Int) : Prop := l.r i ≤ X k ∧ X (k + 1) ≤ l.d i
open Classical in
noncomputable def arcK (i : Int) : Nat → List Arc
 | 0 => []
 | k + 1 => arcK i k ++ (if l.In X i k then [(1 + i, 1 + (l.n : Int) + k, X (k + 1) - X k)] else [])
noncomputable def arcI : Nat → List Arc
 | 0 => []
 | i + 1 => arcI i ++ ((0, 1 + (i : Int), l.len i) :: l.arcK X i m)
noncomputable def arcS : Nat → List Arc
 | 0 => []
 | k + 1 => arcS k ++ [(1 + (l.n : Int) + k, (l.n : Int) + m + 1, kilns * (X (k + 1) - X k))]
noncomputable def arcs : List Arc := l.arcI X m l.n ++ l.arcS X m kilns m
end
section
variable {l : Lds} {X : Int → Int} {m : Nat} {kilns : Int}
theorem arcK_yes {i : Int} {k : Nat} (h : l.In X i k) : l.arcK X i (k + 1) = l.arcK X i k ++ [(1 + i, 1 + (l.n : Int) + k, X (k + 1) - X k)] := by rw [arcK, if_pos h]
theorem arcK_no {i : Int} {k : Nat} (h : ¬ l.In X i k) : l.arcK X i (k + 1) = l.arcK X i k := by rw [arcK, if_neg h, List.append_nil]
theorem arcK_len (i : Int) : ∀ k : Nat, (l.arcK X i k).length ≤ k
 | 0 => Nat.le_refl _
 | k + 1 => by
  have := arcK_len i k
  by_cases h : l.In X i k
  ·rw [arcK_yes h, List.length_append]; simp; omega
  ·rw [arcK_no h]; omega
theorem arcI_len : ∀ i : Nat, (l.arcI X m i).length ≤ i * (m + 1)
 | 0 => Nat.zero_le _
 | i + 1 => by
  have := arcI_len i
  have := arcK_len (l := l) (X := X) (i : Int) m
  unfold arcI
  rw [List.length_append, List.length_cons, Nat.succ_mul]
  omega
theorem arcS_len : ∀ k : Nat, (l.arcS X m kilns k).length = k
 | 0 => rfl
 | k + 1 => by unfold arcS; rw [List.length_append, arcS_len k]; rfl
theorem sL_arcK (φ : Arc → Int) (i : Int) : ∀ k : Nat, sL φ (l.arcK X i k) = sm (fun k => ind (l.In X i k) * φ (1 + i, 1 + (l.n : Int) + k, X (k + 1) - X k)) k
 | 0 => rfl
 | k + 1 => by
  rw [show ((k + 1 : Nat) : Int) = (k : Int) + 1 by omega, sm_succ _ (by omega), ← sL_arcK φ i k]
  by_cases h : l.In X i k
  ·rw [arcK_yes h, sL_app, ind_t h, Int.one_mul]
   show _ + (_ + 0) = _
   omega
  ·rw [arcK_no h, ind_f h, Int.zero_mul]; omega
theorem sL_arcI (φ : Arc → Int) : ∀ i : Nat, sL φ (l.arcI X m i) = sm (fun i => φ (0, 1 + i, l.len i) + sm (fun k => ind (l.In X i k) * φ (1 + i, 1 + (l.n : Int) + k, X (k + 1) - X k)) m) i
 | 0 => rfl
 | i + 1 => by
  rw [show ((i + 1 : Nat) : Int) = (i : Int) + 1 by omega, sm_succ _ (by omega), ← sL_arcI φ i]
  show sL φ (l.arcI X m i ++ ((0, 1 + (i : Int), l.len i) :: l.arcK X i m)) = _
  rw [sL_app]
  show _ + (_ + sL φ (l.arcK X i m)) = _
  rw [sL_arcK]
theorem sL_arcS (φ : Arc → Int) : ∀ k : Nat, sL φ (l.arcS X m kilns k) = sm (fun k => φ (1 + (l.n : Int) + k, (l.n : Int) + m + 1, kilns * (X (k + 1) - X k))) k
 | 0 => rfl
 | k + 1 => by
  rw [show ((k + 1 : Nat) : Int) = (k : Int) + 1 by omega, sm_succ _ (by omega), ← sL_arcS φ k]
  show sL φ (l.arcS X m kilns k ++ [(1 + (l.n : Int) + k, (l.n : Int) + m + 1, kilns * (X (k + 1) - X k))]) = _
  rw [sL_app]
  show _ + (_ + 0) = _
  omega
theorem sL_arcs (φ : Arc → Int) : sL φ (l.arcs X m kilns) = sm (fun i => φ (0, 1 + i, l.len i)) l.n + sm (fun i => sm (fun k => ind (l.In X i k) * φ (1 + i, 1 + (l.n : Int) + k, X (k + 1) - X k)) m) l.n + sm (fun k => φ (1 + (l.n : Int) + k, (l.n : Int) + m + 1, kilns * (X (k + 1) - X k))) m := by
 unfold arcs
 rw [sL_app, sL_arcI, sL_arcS, sm_add]
def Kind (l : Lds) (X : Int → Int) (m : Nat) (kilns : Int) (a : Arc) : Prop :=
 (∃ i : Int, (0 ≤ i ∧ i < l.n) ∧ a = (0, 1 + i, l.len i)) ∨ (∃ i k : Int, (0 ≤ i ∧ i < l.n) ∧ (0 ≤ k ∧ k < m) ∧ l.In X i k ∧ a = (1 + i, 1 + (l.n : Int) + k, X (k + 1) - X k)) ∨ (∃ k : Int, (0 ≤ k ∧ k < m) ∧ a = (1 + (l.n : Int) + k, (l.n : Int) + m + 1, kilns * (X (k + 1) - X k)))
theorem mem_arcK {i : Int} {a : Arc} : ∀ {k : Nat}, a ∈ l.arcK X i k ↔ ∃ j : Int, (0 ≤ j ∧ j < k) ∧ l.In X i j ∧ a = (1 + i, 1 + (l.n : Int) + j, X (j + 1) - X j)
 | 0 => ⟨fun h => (nomatch h), fun ⟨j, hj, _⟩ => by omega⟩
 | k + 1 => by
  by_cases h : l.In X i k
  ·rw [arcK_yes h, List.mem_append, mem_arcK, List.mem_singleton]
   constructor
   ·rintro (⟨j, hj, h2⟩ | e)
    ·exact ⟨j, by omega, h2⟩
    ·exact ⟨k, by omega, h, e⟩
   ·rintro ⟨j, hj, h2, e⟩
    by_cases c : j = k
    ·rw [c] at e; exact .inr e
    ·exact .inl ⟨j, by omega, h2, e⟩
  ·rw [arcK_no h, mem_arcK]
   constructor
   ·rintro ⟨j, hj, h2⟩; exact ⟨j, by omega, h2⟩
   ·rintro ⟨j, hj, h2, e⟩
    by_cases c : j = k
    ·rw [c] at h2; exact absurd h2 h
    ·exact ⟨j, by omega, h2, e⟩
theorem mem_arcI {a : Arc} : ∀ {i : Nat}, a ∈ l.arcI X m i ↔ ∃ j : Int, (0 ≤ j ∧ j < i) ∧ (a = (0, 1 + j, l.len j) ∨ a ∈ l.arcK X j m)
 | 0 => ⟨fun h => (nomatch h), fun ⟨j, hj, _⟩ => by omega⟩
 | i + 1 => by
  unfold arcI
  rw [List.mem_append, mem_arcI, List.mem_cons]
  constructor
  ·rintro (⟨j, hj, h2⟩ | h2)
   ·exact ⟨j, by omega, h2⟩
   ·exact ⟨i, by omega, h2⟩
  ·rintro ⟨j, hj, h2⟩
   by_cases c : j = i
   ·rw [c] at h2; exact .inr h2
   ·exact .inl ⟨j, by omega, h2⟩
theorem mem_arcS {a : Arc} : ∀ {k : Nat}, a ∈ l.arcS X m kilns k ↔ ∃ j : Int, (0 ≤ j ∧ j < k) ∧ a = (1 + (l.n : Int) + j, (l.n : Int) + m + 1, kilns * (X (j + 1) - X j))
 | 0 => ⟨fun h => (nomatch h), fun ⟨j, hj, _⟩ => by omega⟩
 | k + 1 => by
  unfold arcS
  rw [List.mem_append, mem_arcS, List.mem_singleton]
  constructor
  ·rintro (⟨j, hj, e⟩ | e)
   ·exact ⟨j, by omega, e⟩
   ·exact ⟨k, by omega, e⟩
  ·rintro ⟨j, hj, e⟩
   by_cases c : j = k
   ·rw [c] at e; exact .inr e
   ·exact .inl ⟨j, by omega, e⟩
theorem mem_arcs {a : Arc} : a ∈ l.arcs X m kilns ↔ Kind l X m kilns a := by
 unfold arcs Kind
 rw [List.mem_append, mem_arcI, mem_arcS]
 constructor
 ·rintro (⟨j, hj, h | h⟩ | h)
  ·exact .inl ⟨j, hj, h⟩
  ·obtain ⟨k, hk, h2, e⟩ := mem_arcK.1 h
   exact .inr (.inl ⟨j, k, hj, hk, h2, e⟩)
  ·exact .inr (.inr h)
 ·rintro (⟨i, hi, e⟩ | ⟨i, k, hi, hk, h2, e⟩ | h)
  ·exact .inl ⟨i, hi, .inl e⟩
  ·exact .inl ⟨i, hi, .inr (mem_arcK.2 ⟨k, hk, h2, e⟩)⟩
  ·exact .inr h
theorem nd_arcK (i : Int) : ∀ k : Nat, ((l.arcK X i k).map fun a => (a.1, a.2.1)).Nodup
 | 0 => List.nodup_nil
 | k + 1 => by
  by_cases h : l.In X i k
  ·rw [arcK_yes h, List.map_append]
   refine List.nodup_append.2 ⟨nd_arcK i k, by simp, fun a ha b hb => ?_⟩
   obtain ⟨a', ha', rfl⟩ := List.mem_map.1 ha
   obtain ⟨j, hj, _, e⟩ := mem_arcK.1 ha'
   have hb2 : b = (1 + i, 1 + (l.n : Int) + k) := by simpa using hb
   intro e2
   rw [e, hb2] at e2
   simp only [Prod.mk.injEq] at e2
   omega
  ·rw [arcK_no h]; exact nd_arcK i k
theorem nd_arcI : ∀ i : Nat, ((l.arcI X m i).map fun a => (a.1, a.2.1)).Nodup
 | 0 => List.nodup_nil
 | i + 1 => by
  unfold arcI
  rw [List.map_append, List.map_cons]
  refine List.nodup_append.2 ⟨nd_arcI i, List.nodup_cons.2 ⟨fun h => ?_, nd_arcK i m⟩, fun a ha b hb => ?_⟩
  ·obtain ⟨a', ha', e⟩ := List.mem_map.1 h
   obtain ⟨j, hj, _, e2⟩ := mem_arcK.1 ha'
   rw [e2] at e
   simp only [Prod.mk.injEq] at e
   omega
  ·obtain ⟨a', ha', rfl⟩ := List.mem_map.1 ha
   obtain ⟨j, hj, h2⟩ := mem_arcI.1 ha'
   intro e
   rcases List.mem_cons.1 hb with hb | hb
   ·rcases h2 with h2 | h2
    ·rw [h2, hb] at e; simp only [Prod.mk.injEq] at e; omega
    ·obtain ⟨q, _, _, e2⟩ := mem_arcK.1 h2
     rw [e2, hb] at e; simp only [Prod.mk.injEq] at e; omega
   ·obtain ⟨b', hb', rfl⟩ := List.mem_map.1 hb
    obtain ⟨q', _, _, e3⟩ := mem_arcK.1 hb'
    rcases h2 with h2 | h2
    ·rw [h2, e3] at e; simp only [Prod.mk.injEq] at e; omega
    ·obtain ⟨q, _, _, e2⟩ := mem_arcK.1 h2
     rw [e2, e3] at e; simp only [Prod.mk.injEq] at e; omega
theorem nd_arcS : ∀ k : Nat, ((l.arcS X m kilns k).map fun a => (a.1, a.2.1)).Nodup
 | 0 => List.nodup_nil
 | k + 1 => by
  unfold arcS
  rw [List.map_append]
  refine List.nodup_append.2 ⟨nd_arcS k, by simp, fun a ha b hb => ?_⟩
  obtain ⟨a', ha', rfl⟩ := List.mem_map.1 ha
  obtain ⟨j, hj, e⟩ := mem_arcS.1 ha'
  have hb2 : b = (1 + (l.n : Int) + k, (l.n : Int) + m + 1) := by simpa using hb
  intro e2
  rw [e, hb2] at e2
  simp only [Prod.mk.injEq] at e2
  omega
theorem nd_arcs : ((l.arcs X m kilns).map fun a => (a.1, a.2.1)).Nodup := by
 unfold arcs
 rw [List.map_append]
 refine List.nodup_append.2 ⟨nd_arcI l.n, nd_arcS m, fun a ha b hb e => ?_⟩
 obtain ⟨a', ha', rfl⟩ := List.mem_map.1 ha
 obtain ⟨b', hb', rfl⟩ := List.mem_map.1 hb
 obtain ⟨k, hk, e2⟩ := mem_arcS.1 hb'
 obtain ⟨j, hj, h2⟩ := mem_arcI.1 ha'
 rcases h2 with h2 | h2
 ·rw [h2, e2] at e; simp only [Prod.mk.injEq] at e; omega
 ·obtain ⟨q, hq, _, e3⟩ := mem_arcK.1 h2
  rw [e3, e2] at e; simp only [Prod.mk.injEq] at e; omega
end
end Lds
end Go.Proofs.YtbepolognfdkeaaGreat
set_option maxRecDepth 100000
namespace Go.Proofs.YtbepolognfdkeaaGreat
theorem sm_one1 {f : Int → Int} {k a : Int} (a0 : 0 ≤ a) (a1 : a < k) (h : ∀ i : Int, 0 ≤ i → i < k → i ≠ a → f i = 0) : sm f k = f a := by
 have e : sm f k = sm (fun i => if a = i then f a else 0) k := sm_congr fun i i0 i1 => by
  by_cases c : a = i
  ·rw [if_pos c, c]
  ·rw [if_neg c]; exact h i i0 i1 (fun e => c e.symm)
 rw [e, sm_oneG a0 a1]
structure Built (l : Lds) (c : Nat) (X : Int → Int) (kilns : Int) (G : Net) : Prop where
 cuts : Cuts l c X
 is_ : Net.Is (l.n + (c - 1) + 2) (l.arcs X (c - 1) kilns) G
 ok : G.Ok
noncomputable def xf (G : Net) (L : Int → Int) (u v : Int) : Int := sm (fun j => L (2 * j + 1) * (ind (G.TO (2 * j + 1) = u) * ind (G.TO (2 * j) = v))) G.np
section
variable {l : Lds} {c : Nat} {X : Int → Int} {kilns : Int} {G : Net} {L : Int → Int} {fl : Int}
theorem Built.kind (h : Built l c X kilns G) {j : Int} (j0 : 0 ≤ j) (j1 : j < G.np) : Lds.Kind l X (c - 1) kilns (G.TO (2 * j + 1), G.TO (2 * j), G.CP j) := by
 obtain ⟨q, rfl⟩ := Int.eq_ofNat_of_zero_le j0
 have hq : q < (l.arcs X (c - 1) kilns).length := by have := h.is_.np; omega
 rw [h.is_.to1 q hq, h.is_.to0 q hq, h.is_.cp q hq]
 exact Lds.mem_arcs.1 (List.getElem_mem hq)
theorem Built.ex (h : Built l c X kilns G) {a : Arc} (ha : Lds.Kind l X (c - 1) kilns a) : ∃ j : Int, (0 ≤ j ∧ j < G.np) ∧ (G.TO (2 * j + 1), G.TO (2 * j), G.CP j) = a := by
 obtain ⟨q, hq, e⟩ := List.mem_iff_getElem.1 (Lds.mem_arcs.2 ha)
 refine ⟨q, ⟨by omega, by have := h.is_.np; omega⟩, ?_⟩
 rw [h.is_.to1 q hq, h.is_.to0 q hq, h.is_.cp q hq]
 exact e
theorem Built.uniq (h : Built l c X kilns G) {i j : Int} (i0 : 0 ≤ i) (i1 : i < G.np) (j0 : 0 ≤ j) (j1 : j < G.np) (e1 : G.TO (2 * i + 1) = G.TO (2 * j + 1)) (e2 : G.TO (2 * i) = G.TO (2 * j)) : i = j := by
 obtain ⟨p, rfl⟩ := Int.eq_ofNat_of_zero_le i0
 obtain ⟨q, rfl⟩ := Int.eq_ofNat_of_zero_le j0
 have hnp := h.is_.np
 have hp : p < (l.arcs X (c - 1) kilns).length := by omega
 have hq : q < (l.arcs X (c - 1) kilns).length := by omega
 rw [h.is_.to1 p hp, h.is_.to1 q hq] at e1
 rw [h.is_.to0 p hp, h.is_.to0 q hq] at e2
 have hnd := Lds.nd_arcs (l := l) (X := X) (m := c - 1) (kilns := kilns)
 have hpw := List.pairwise_iff_getElem.1 hnd
 rcases Nat.lt_trichotomy p q with a | a | a
 ·refine absurd ?_ (hpw p q (by simpa using hp) (by simpa using hq) a)
  rw [List.getElem_map, List.getElem_map]
  exact congr (congrArg Prod.mk e1) e2
 ·rw [a]
 ·refine absurd ?_ (hpw q p (by simpa using hq) (by simpa using hp) a)
  rw [List.getElem_map, List.getElem_map]
  exact (congr (congrArg Prod.mk e1) e2).symm
theorem Built.xf_at (h : Built l c X kilns G) {j : Int} (j0 : 0 ≤ j) (j1 : j < G.np) : xf G L (G.TO (2 * j + 1)) (G.TO (2 * j)) = L (2 * j + 1) := by
 unfold xf
 rw [sm_one1 j0 j1 fun i i0 i1 hne => ?_]
 ·rw [ind_t rfl, ind_t rfl]; omega
 ·by_cases a : G.TO (2 * i + 1) = G.TO (2 * j + 1)
  ·by_cases b : G.TO (2 * i) = G.TO (2 * j)
   ·exact absurd (h.uniq i0 i1 j0 j1 a b) hne
   ·rw [ind_f b]; simp
  ·rw [ind_f a]; simp
theorem xf_none {u v : Int} (h : ∀ j : Int, 0 ≤ j → j < G.np → ¬ (G.TO (2 * j + 1) = u ∧ G.TO (2 * j) = v)) : xf G L u v = 0 := sm_zeroG fun j j0 j1 => by
 by_cases a : G.TO (2 * j + 1) = u
 ·rw [ind_f fun b => h j j0 j1 ⟨a, b⟩]; simp
 ·rw [ind_f a]; simp
theorem xf_nn (hf : G.Flow L fl) (u v : Int) : 0 ≤ xf G L u v := sm_nonneg fun j j0 j1 => Int.mul_nonneg (hf.nn _ (by omega) (by omega)) (Int.mul_nonneg (ind_rng _).1 (ind_rng _).1)
theorem Built.xf_le (h : Built l c X kilns G) (hf : G.Flow L fl) {u v m : Int} (hk : Lds.Kind l X (c - 1) kilns (u, v, m)) : xf G L u v ≤ m := by
 obtain ⟨j, ⟨j0, j1⟩, e⟩ := h.ex hk
 simp only [Prod.mk.injEq] at e
 obtain ⟨e1, e2, e3⟩ := e
 rw [← e1, ← e2, h.xf_at j0 j1, ← e3]
 have := hf.cap j j0 j1
 have := hf.nn (2 * j) (by omega) (by omega)
 omega
theorem Flow.node (hf : G.Flow L fl) {t : Int} (t0 : t ≠ 0) (t1 : t ≠ G.nn - 1) : sm (fun j => L (2 * j + 1) * ind (G.TO (2 * j + 1) = t)) G.np = sm (fun j => L (2 * j + 1) * ind (G.TO (2 * j) = t)) G.np := by
 have h := hf.sum fun v => ind (v = t)
 rw [ind_f (fun e => t0 e.symm), ind_f (fun e => t1 e.symm), Int.sub_self, Int.mul_zero] at h
 have e : sm (fun j => L (2 * j + 1) * (ind (G.TO (2 * j + 1) = t) - ind (G.TO (2 * j) = t))) G.np = sm (fun j => L (2 * j + 1) * ind (G.TO (2 * j + 1) = t)) G.np - sm (fun j => L (2 * j + 1) * ind (G.TO (2 * j) = t)) G.np := by
  rw [← sm_sub]; exact sm_congr fun j _ _ => Int.mul_sub _ _ _
 rw [e] at h
 omega
theorem sm_parts {f p : Int → Int} {q : Int → Int → Int} {N M : Int} (h : ∀ j : Int, 0 ≤ j → j < N → p j = sm (q j) M) : sm (fun j => f j * p j) N = sm (fun i => sm (fun j => f j * q j i) N) M := by
 rw [sm_congr (g := fun j => sm (fun i => f j * q j i) M) fun j j0 j1 => by rw [h j j0 j1, sm_mul], sm_swap]
theorem Built.out_load (h : Built l c X kilns G) {i : Int} (i0 : 0 ≤ i) (i1 : i < l.n) : sm (fun j => L (2 * j + 1) * ind (G.TO (2 * j + 1) = 1 + i)) G.np = sm (fun k => xf G L (1 + i) (1 + (l.n : Int) + k)) ((c - 1 : Nat) : Int) := by
 rw [sm_parts (q := fun j k => ind (G.TO (2 * j + 1) = 1 + i) * ind (G.TO (2 * j) = 1 + (l.n : Int) + k)) (M := ((c - 1 : Nat) : Int)) fun j j0 j1 => ?_]
 ·rfl
 ·rcases h.kind j0 j1 with ⟨i', hi', e⟩ | ⟨i', k', hi', hk', _, e⟩ | ⟨k', hk', e⟩
  ·simp only [Prod.mk.injEq] at e
   rw [ind_f (by omega)]
   exact (sm_zeroG fun k _ _ => Int.zero_mul _).symm
  ·simp only [Prod.mk.injEq] at e
   rw [sm_mul, sm_one1 (a := k') hk'.1 hk'.2 fun k k0 k1 hne => ind_f (by omega), ind_t (p := G.TO (2 * j) = 1 + (l.n : Int) + k') (by omega), Int.mul_one]
  ·simp only [Prod.mk.injEq] at e
   rw [ind_f (by omega)]
   exact (sm_zeroG fun k _ _ => Int.zero_mul _).symm
theorem Built.in_span (h : Built l c X kilns G) {k : Int} (k0 : 0 ≤ k) (k1 : k < ((c - 1 : Nat) : Int)) : sm (fun j => L (2 * j + 1) * ind (G.TO (2 * j) = 1 + (l.n : Int) + k)) G.np = sm (fun i => xf G L (1 + i) (1 + (l.n : Int) + k)) l.n := by
 rw [sm_parts (q := fun j i => ind (G.TO (2 * j + 1) = 1 + i) * ind (G.TO (2 * j) = 1 + (l.n : Int) + k)) (M := l.n) fun j j0 j1 => ?_]
 ·rfl
 ·rcases h.kind j0 j1 with ⟨i', hi', e⟩ | ⟨i', k', hi', hk', _, e⟩ | ⟨k', hk', e⟩
  ·simp only [Prod.mk.injEq] at e
   rw [ind_f (by omega)]
   exact (sm_zeroG fun k _ _ => Int.mul_zero _).symm
  ·simp only [Prod.mk.injEq] at e
   rw [sm_congr (g := fun i => ind (G.TO (2 * j) = 1 + (l.n : Int) + k) * ind (G.TO (2 * j + 1) = 1 + i)) fun i _ _ => Int.mul_comm _ _, sm_mul, sm_one1 (a := i') hi'.1 hi'.2 fun i _ _ hne => ind_f (by omega), ind_t (p := G.TO (2 * j + 1) = 1 + i') (by omega), Int.mul_one]
  ·simp only [Prod.mk.injEq] at e
   rw [ind_f (by omega)]
   exact (sm_zeroG fun k _ _ => Int.mul_zero _).symm
theorem Built.out_src (h : Built l c X kilns G) : sm (fun j => L (2 * j + 1) * ind (G.TO (2 * j + 1) = 0)) G.np = sm (fun i => xf G L 0 (1 + i)) l.n := by
 rw [sm_parts (q := fun j i => ind (G.TO (2 * j + 1) = 0) * ind (G.TO (2 * j) = 1 + i)) (M := l.n) fun j j0 j1 => ?_]
 ·rfl
 ·rcases h.kind j0 j1 with ⟨i', hi', e⟩ | ⟨i', k', hi', hk', _, e⟩ | ⟨k', hk', e⟩
  ·simp only [Prod.mk.injEq] at e
   rw [sm_mul, sm_one1 (a := i') hi'.1 hi'.2 fun i _ _ hne => ind_f (by omega), ind_t (p := G.TO (2 * j) = 1 + i') (by omega), Int.mul_one]
  ·simp only [Prod.mk.injEq] at e
   rw [ind_f (by omega)]
   exact (sm_zeroG fun k _ _ => Int.zero_mul _).symm
  ·simp only [Prod.mk.injEq] at e
   rw [ind_f (by omega)]
   exact (sm_zeroG fun k _ _ => Int.zero_mul _).symm
theorem Built.in_load (h : Built l c X kilns G) {i : Int} (i0 : 0 ≤ i) (i1 : i < l.n) : sm (fun j => L (2 * j + 1) * ind (G.TO (2 * j) = 1 + i)) G.np = xf G L 0 (1 + i) := sm_congr fun j j0 j1 => by
 rcases h.kind j0 j1 with ⟨i', hi', e⟩ | ⟨i', k', hi', hk', _, e⟩ | ⟨k', hk', e⟩
 ·simp only [Prod.mk.injEq] at e
  rw [ind_t (p := G.TO (2 * j + 1) = 0) (by omega), Int.one_mul]
 ·simp only [Prod.mk.injEq] at e
  rw [ind_f (p := G.TO (2 * j) = 1 + i) (by omega)]; simp
 ·simp only [Prod.mk.injEq] at e
  rw [ind_f (p := G.TO (2 * j) = 1 + i) (by omega)]; simp
theorem Built.out_span (h : Built l c X kilns G) {k : Int} (k0 : 0 ≤ k) (k1 : k < ((c - 1 : Nat) : Int)) : sm (fun j => L (2 * j + 1) * ind (G.TO (2 * j + 1) = 1 + (l.n : Int) + k)) G.np = xf G L (1 + (l.n : Int) + k) ((l.n : Int) + ((c - 1 : Nat) : Int) + 1) := sm_congr fun j j0 j1 => by
 rcases h.kind j0 j1 with ⟨i', hi', e⟩ | ⟨i', k', hi', hk', _, e⟩ | ⟨k', hk', e⟩
 ·simp only [Prod.mk.injEq] at e
  rw [ind_f (p := G.TO (2 * j + 1) = 1 + (l.n : Int) + k) (by omega)]; simp
 ·simp only [Prod.mk.injEq] at e
  rw [ind_f (p := G.TO (2 * j + 1) = 1 + (l.n : Int) + k) (by omega)]; simp
 ·simp only [Prod.mk.injEq] at e
  rw [ind_t (p := G.TO (2 * j) = (l.n : Int) + ((c - 1 : Nat) : Int) + 1) (by omega), Int.mul_one]
structure Deal (l : Lds) (c : Nat) (X : Int → Int) (kilns : Int) (x : Int → Int → Int) : Prop where
 nn : ∀ i k : Int, 0 ≤ i → i < l.n → 0 ≤ k → k < ((c - 1 : Nat) : Int) → 0 ≤ x i k
 le : ∀ i k : Int, 0 ≤ i → i < l.n → 0 ≤ k → k < ((c - 1 : Nat) : Int) → x i k ≤ X (k + 1) - X k
 win : ∀ i k : Int, 0 ≤ i → i < l.n → 0 ≤ k → k < ((c - 1 : Nat) : Int) → x i k ≠ 0 → l.In X i k
 sum : ∀ i : Int, 0 ≤ i → i < l.n → sm (x i) ((c - 1 : Nat) : Int) = l.len i
 most : ∀ k : Int, 0 ≤ k → k < ((c - 1 : Nat) : Int) → sm (fun i => x i k) l.n ≤ kilns * (X (k + 1) - X k)
theorem Built.src_le (h : Built l c X kilns G) (hf : G.Flow L fl) {i : Int} (i0 : 0 ≤ i) (i1 : i < l.n) : xf G L 0 (1 + i) ≤ l.len i := h.xf_le hf (.inl ⟨i, ⟨i0, i1⟩, rfl⟩)
theorem Built.flow (h : Built l c X kilns G) (hf : G.Flow L fl) : fl = sm (fun i => xf G L 0 (1 + i)) l.n := by
 have hnn := h.is_.nn
 have h1 := hf.sum fun v => ind (v = 0)
 rw [ind_t rfl, ind_f (show ¬ ((G.nn : Int) - 1 = 0) by omega)] at h1
 rw [← h.out_src (L := L)]
 have e : sm (fun j => L (2 * j + 1) * (ind (G.TO (2 * j + 1) = 0) - ind (G.TO (2 * j) = 0))) G.np = sm (fun j => L (2 * j + 1) * ind (G.TO (2 * j + 1) = 0)) G.np := sm_congr fun j j0 j1 => by
  rw [ind_f (p := G.TO (2 * j) = 0), Int.sub_zero]
  rcases h.kind j0 j1 with ⟨i', hi', e⟩ | ⟨i', k', hi', hk', _, e⟩ | ⟨k', hk', e⟩ <;> (simp only [Prod.mk.injEq] at e; omega)
 rw [e] at h1
 omega
theorem Built.fl_le (h : Built l c X kilns G) (hf : G.Flow L fl) : fl ≤ sm l.len l.n := by
 rw [h.flow hf]
 exact sm_le fun i i0 i1 => h.src_le hf i0 i1
theorem Built.deal (h : Built l c X kilns G) (hf : G.Flow L fl) (hn : fl = sm l.len l.n) : Deal l c X kilns fun i k => xf G L (1 + i) (1 + (l.n : Int) + k) := by
 have hnn := h.is_.nn
 have key : ∀ i k : Int, 0 ≤ i → i < l.n → 0 ≤ k → k < ((c - 1 : Nat) : Int) → ¬ l.In X i k → xf G L (1 + i) (1 + (l.n : Int) + k) = 0 := fun i k i0 i1 k0 k1 hin => xf_none fun j j0 j1 ⟨a, b⟩ => by
  rcases h.kind j0 j1 with ⟨i', hi', e⟩ | ⟨i', k', hi', hk', h2, e⟩ | ⟨k', hk', e⟩
  ·simp only [Prod.mk.injEq] at e; omega
  ·simp only [Prod.mk.injEq] at e
   have e1 : i' = i := by omega
   have e2 : k' = k := by omega
   rw [e1, e2] at h2
   exact hin h2
  ·simp only [Prod.mk.injEq] at e; omega
 refine ⟨fun i k i0 i1 k0 k1 => xf_nn hf _ _, fun i k i0 i1 k0 k1 => ?_, fun i k i0 i1 k0 k1 hne => ?_, fun i i0 i1 => ?_, fun k k0 k1 => ?_⟩
 ·by_cases hin : l.In X i k
  ·exact h.xf_le hf (.inr (.inl ⟨i, k, ⟨i0, i1⟩, ⟨k0, k1⟩, hin, rfl⟩))
  ·rw [key i k i0 i1 k0 k1 hin]
   have := h.cuts.inc k (k + 1) k0 (by omega) (by omega)
   omega
 ·exact Classical.byContradiction fun hin => hne (key i k i0 i1 k0 k1 hin)
 ·rw [← h.out_load (L := L) i0 i1, Flow.node hf (by omega) (by omega), h.in_load i0 i1]
  have h1 := h.flow hf
  have h2 : ∀ i : Int, 0 ≤ i → i < l.n → xf G L 0 (1 + i) ≤ l.len i := fun i i0 i1 => h.src_le hf i0 i1
  have h3 := sm_pos (f := fun i => l.len i - xf G L 0 (1 + i)) (k := l.n) (fun i i0 i1 => by have := h2 i i0 i1; omega) i i0 i1
  rw [sm_sub] at h3
  have := h2 i i0 i1
  omega
 ·rw [← h.in_span (L := L) k0 k1, ← Flow.node hf (by omega) (by omega), h.out_span k0 k1]
  exact h.xf_le hf (.inr (.inr ⟨k, ⟨k0, k1⟩, rfl⟩))
structure CrushK (l : Lds) (c : Nat) (X : Int → Int) (kilns : Int) (S T : Int → Prop) : Prop where
 big : kilns * sm (fun k => ind (T k) * (X (k + 1) - X k)) ((c - 1 : Nat) : Int) < sm (fun i => ind (S i) * (l.len i - sm (fun k => ind (l.In X i k) * ((X (k + 1) - X k) * (1 - ind (T k)))) ((c - 1 : Nat) : Int))) l.n
theorem Built.crush (h : Built l c X kilns G) (hf : G.Flow L fl) (hn : fl < sm l.len l.n) {S : Int → Prop} (hc : G.Cut L S) : CrushK l c X kilns (fun i => S (1 + i)) (fun k => S (1 + (l.n : Int) + k)) := by
 have hnn := h.is_.nn
 have h1 := Net.Cut.flow hf hc
 have h2 := is_sum h.is_ (fun a => a.2.2 * (ind (S a.1) * (1 - ind (S a.2.1))))
 dsimp only at h2
 rw [h2, Lds.sL_arcs] at h1
 dsimp only at h1
 have hs : ¬ S ((l.n : Int) + ((c - 1 : Nat) : Int) + 1) := by
  have e : (l.n : Int) + ((c - 1 : Nat) : Int) + 1 = G.nn - 1 := by omega
  rw [e]; exact hc.snk
 have a1 : sm (fun i => l.len i * (ind (S 0) * (1 - ind (S (1 + i))))) l.n = sm l.len l.n - sm (fun i => ind (S (1 + i)) * l.len i) l.n := by
  rw [← sm_sub]
  exact sm_congr fun i _ _ => by rw [ind_t hc.src, Int.one_mul, Int.mul_sub, Int.mul_one, Int.mul_comm (l.len i) (ind _)]
 have a2 : sm (fun i => sm (fun k => ind (l.In X i k) * ((X (k + 1) - X k) * (ind (S (1 + i)) * (1 - ind (S (1 + (l.n : Int) + k)))))) ((c - 1 : Nat) : Int)) l.n = sm (fun i => ind (S (1 + i)) * sm (fun k => ind (l.In X i k) * ((X (k + 1) - X k) * (1 - ind (S (1 + (l.n : Int) + k))))) ((c - 1 : Nat) : Int)) l.n := sm_congr fun i _ _ => by
  rw [← sm_mul]
  exact sm_congr fun k _ _ => by
   rw [Int.mul_left_comm (X (k + 1) - X k), Int.mul_left_comm (ind (l.In X i k))]
 have a3 : sm (fun k => kilns * (X (k + 1) - X k) * (ind (S (1 + (l.n : Int) + k)) * (1 - ind (S ((l.n : Int) + ((c - 1 : Nat) : Int) + 1))))) ((c - 1 : Nat) : Int) = kilns * sm (fun k => ind (S (1 + (l.n : Int) + k)) * (X (k + 1) - X k)) ((c - 1 : Nat) : Int) := by
  rw [← sm_mul]
  exact sm_congr fun k _ _ => by rw [ind_f hs, Int.sub_zero, Int.mul_one, Int.mul_assoc, Int.mul_comm (X (k + 1) - X k)]
 rw [a1, a2, a3] at h1
 refine ⟨?_⟩
 rw [sm_congr (g := fun i => ind (S (1 + i)) * l.len i - ind (S (1 + i)) * sm (fun k => ind (l.In X i k) * ((X (k + 1) - X k) * (1 - ind (S (1 + (l.n : Int) + k))))) ((c - 1 : Nat) : Int)) fun i _ _ => Int.mul_sub _ _ _, sm_sub]
 omega
end
end Go.Proofs.YtbepolognfdkeaaGreat
