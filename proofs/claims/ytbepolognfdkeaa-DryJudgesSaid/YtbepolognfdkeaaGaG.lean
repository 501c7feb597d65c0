import Derived.Test.YtbepolognfdkeaaGaF
set_option maxRecDepth 100000
namespace Go.Proofs.Ytbepolognfdkeaa
structure Cuts (l : Lds) (c : Nat) (X : Int → Int) : Prop where
 inc : ∀ a b : Int, 0 ≤ a → a < b → b < c → X a < X b
 mem : ∀ t : Int, (∃ j : Int, (0 ≤ j ∧ j < c) ∧ X j = t) ↔ ∃ i : Int, (0 ≤ i ∧ i < l.n) ∧ (t = l.r i ∨ t = l.d i)
 le : c ≤ 2 * l.n
abbrev Arc := Int × Int × Int
def sL (φ : Arc → Int) : List Arc → Int
 | [] => 0
 | a :: A => φ a + sL φ A
theorem sL_app (φ : Arc → Int) : ∀ A B : List Arc, sL φ (A ++ B) = sL φ A + sL φ B
 | [], B => by show sL φ B = 0 + sL φ B; omega
 | a :: A, B => by show φ a + sL φ (A ++ B) = φ a + sL φ A + sL φ B; rw [sL_app φ A B]; omega
theorem sL_take (φ : Arc → Int) (A : List Arc) (f : Int → Int) (h : ∀ j : Nat, ∀ hj : j < A.length, f j = φ A[j]) : ∀ k : Nat, k ≤ A.length → sm f k = sL φ (A.take k)
 | 0, _ => by rw [show ((0 : Nat) : Int) = 0 from rfl, sm_zero, List.take_zero]; rfl
 | k + 1, hk => by
  have hk2 : k < A.length := by omega
  rw [show ((k + 1 : Nat) : Int) = (k : Int) + 1 by omega, sm_succ _ (by omega), sL_take φ A f h k (by omega), h k hk2, List.take_add_one, List.getElem?_eq_getElem hk2, sL_app]
  show _ + φ A[k] = _ + (φ A[k] + 0)
  omega
theorem is_sum {nn : Nat} {A : List Arc} {G : Net} (h : Net.Is nn A G) (φ : Arc → Int) : sm (fun j => φ (G.TO (2 * j + 1), G.TO (2 * j), G.CP j)) G.np = sL φ A := by
 rw [h.np, sL_take φ A _ (fun j hj => by
  show φ (G.TO (2 * (j : Int) + 1), G.TO (2 * (j : Int)), G.CP j) = _
  rw [h.to1 j hj, h.to0 j hj, h.cp j hj]) A.length (Nat.le_refl _), List.take_length]
namespace Lds
section
variable (l : Lds) (X : Int → Int) (m : Nat) (kilns : Int)
def In (i k : Int) : Prop := l.r i ≤ X k ∧ X (k + 1) ≤ l.d i
open Classical in
noncomputable def arcK (i : Int) : Nat → List Arc
 | 0 => []
 | k + 1 => arcK i k ++ (if l.In X i k then [(1 + i, 1 + (l.n : Int) + k, X (k + 1) - X k)] else [])
noncomputable def arcI : Nat → List Arc
 | 0 => []
 | i + 1 => arcI i ++ ((0, 1 + (i : Int), l.len i) :: l.arcK X i m)
noncomputable def arcS : Nat → List Arc
 | 0 => []
 | k + 1 => arcS k ++ [(1 + (l.n : Int) + k, (l.n : Int) + m + 1, kilns * (X (k + 1) - X k))]
noncomputable def arcs : List Arc := l.arcI X m l.n ++ l.arcS X m kilns m
end
section
variable {l : Lds} {X : Int → Int} {m : Nat} {kilns : Int}
theorem arcK_yes {i : Int} {k : Nat} (h : l.In X i k) : l.arcK X i (k + 1) = l.arcK X i k ++ [(1 + i, 1 + (l.n : Int) + k, X (k + 1) - X k)] := by rw [arcK, if_pos h]
theorem arcK_no {i : Int} {k : Nat} (h : ¬ l.In X i k) : l.arcK X i (k + 1) = l.arcK X i k := by rw [arcK, if_neg h, List.append_nil]
theorem arcK_len (i : Int) : ∀ k : Nat, (l.arcK X i k).length ≤ k
 | 0 => Nat.le_refl _
 | k + 1 => by
  have := arcK_len i k
  by_cases h : l.In X i k
  ·rw [arcK_yes h, List.length_append]; simp; omega
  ·rw [arcK_no h]; omega
theorem arcI_len : ∀ i : Nat, (l.arcI X m i).length ≤ i * (m + 1)
 | 0 => Nat.zero_le _
 | i + 1 => by
  have := arcI_len i
  have := arcK_len (l := l) (X := X) (i : Int) m
  unfold arcI
  rw [List.length_append, List.length_cons, Nat.succ_mul]
  omega
theorem arcS_len : ∀ k : Nat, (l.arcS X m kilns k).length = k
 | 0 => rfl
 | k + 1 => by unfold arcS; rw [List.length_append, arcS_len k]; rfl
theorem sL_arcK (φ : Arc → Int) (i : Int) : ∀ k : Nat, sL φ (l.arcK X i k) = sm (fun k => ind (l.In X i k) * φ (1 + i, 1 + (l.n : Int) + k, X (k + 1) - X k)) k
 | 0 => rfl
 | k + 1 => by
  rw [show ((k + 1 : Nat) : Int) = (k : Int) + 1 by omega, sm_succ _ (by omega), ← sL_arcK φ i k]
  by_cases h : l.In X i k
  ·rw [arcK_yes h, sL_app, ind_t h, Int.one_mul]
   show _ + (_ + 0) = _
   omega
  ·rw [arcK_no h, ind_f h, Int.zero_mul]; omega
theorem sL_arcI (φ : Arc → Int) : ∀ i : Nat, sL φ (l.arcI X m i) = sm (fun i => φ (0, 1 + i, l.len i) + sm (fun k => ind (l.In X i k) * φ (1 + i, 1 + (l.n : Int) + k, X (k + 1) - X k)) m) i
 | 0 => rfl
 | i + 1 => by
  rw [show ((i + 1 : Nat) : Int) = (i : Int) + 1 by omega, sm_succ _ (by omega), ← sL_arcI φ i]
  show sL φ (l.arcI X m i ++ ((0, 1 + (i : Int), l.len i) :: l.arcK X i m)) = _
  rw [sL_app]
  show _ + (_ + sL φ (l.arcK X i m)) = _
  rw [sL_arcK]
theorem sL_arcS (φ : Arc → Int) : ∀ k : Nat, sL φ (l.arcS X m kilns k) = sm (fun k => φ (1 + (l.n : Int) + k, (l.n : Int) + m + 1, kilns * (X (k + 1) - X k))) k
 | 0 => rfl
 | k + 1 => by
  rw [show ((k + 1 : Nat) : Int) = (k : Int) + 1 by omega, sm_succ _ (by omega), ← sL_arcS φ k]
  show sL φ (l.arcS X m kilns k ++ [(1 + (l.n : Int) + k, (l.n : Int) + m + 1, kilns * (X (k + 1) - X k))]) = _
  rw [sL_app]
  show _ + (_ + 0) = _
  omega
theorem sL_arcs (φ : Arc → Int) : sL φ (l.arcs X m kilns) = sm (fun i => φ (0, 1 + i, l.len i)) l.n + sm (fun i => sm (fun k => ind (l.In X i k) * φ (1 + i, 1 + (l.n : Int) + k, X (k + 1) - X k)) m) l.n + sm (fun k => φ (1 + (l.n : Int) + k, (l.n : Int) + m + 1, kilns * (X (k + 1) - X k))) m := by
 unfold arcs
 rw [sL_app, sL_arcI, sL_arcS, sm_add]
def Kind (l : Lds) (X : Int → Int) (m : Nat) (kilns : Int) (a : Arc) : Prop :=
 (∃ i : Int, (0 ≤ i ∧ i < l.n) ∧ a = (0, 1 + i, l.len i)) ∨ (∃ i k : Int, (0 ≤ i ∧ i < l.n) ∧ (0 ≤ k ∧ k < m) ∧ l.In X i k ∧ a = (1 + i, 1 + (l.n : Int) + k, X (k + 1) - X k)) ∨ (∃ k : Int, (0 ≤ k ∧ k < m) ∧ a = (1 + (l.n : Int) + k, (l.n : Int) + m + 1, kilns * (X (k + 1) - X k)))
theorem mem_arcK {i : Int} {a : Arc} : ∀ {k : Nat}, a ∈ l.arcK X i k ↔ ∃ j : Int, (0 ≤ j ∧ j < k) ∧ l.In X i j ∧ a = (1 + i, 1 + (l.n : Int) + j, X (j + 1) - X j)
 | 0 => ⟨fun h => (nomatch h), fun ⟨j, hj, _⟩ => by omega⟩
 | k + 1 => by
  by_cases h : l.In X i k
  ·rw [arcK_yes h, List.mem_append, mem_arcK, List.mem_singleton]
   constructor
   ·rintro (⟨j, hj, h2⟩ | e)
    ·exact ⟨j, by omega, h2⟩
    ·exact ⟨k, by omega, h, e⟩
   ·rintro ⟨j, hj, h2, e⟩
    by_cases c : j = k
    ·rw [c] at e; exact .inr e
    ·exact .inl ⟨j, by omega, h2, e⟩
  ·rw [arcK_no h, mem_arcK]
   constructor
   ·rintro ⟨j, hj, h2⟩; exact ⟨j, by omega, h2⟩
   ·rintro ⟨j, hj, h2, e⟩
    by_cases c : j = k
    ·rw [c] at h2; exact absurd h2 h
    ·exact ⟨j, by omega, h2, e⟩
theorem mem_arcI {a : Arc} : ∀ {i : Nat}, a ∈ l.arcI X m i ↔ ∃ j : Int, (0 ≤ j ∧ j < i) ∧ (a = (0, 1 + j, l.len j) ∨ a ∈ l.arcK X j m)
 | 0 => ⟨fun h => (nomatch h), fun ⟨j, hj, _⟩ => by omega⟩
 | i + 1 => by
  unfold arcI
  rw [List.mem_append, mem_arcI, List.mem_cons]
  constructor
  ·rintro (⟨j, hj, h2⟩ | h2)
   ·exact ⟨j, by omega, h2⟩
   ·exact ⟨i, by omega, h2⟩
  ·rintro ⟨j, hj, h2⟩
   by_cases c : j = i
   ·rw [c] at h2; exact .inr h2
   ·exact .inl ⟨j, by omega, h2⟩
theorem mem_arcS {a : Arc} : ∀ {k : Nat}, a ∈ l.arcS X m kilns k ↔ ∃ j : Int, (0 ≤ j ∧ j < k) ∧ a = (1 + (l.n : Int) + j, (l.n : Int) + m + 1, kilns * (X (j + 1) - X j))
 | 0 => ⟨fun h => (nomatch h), fun ⟨j, hj, _⟩ => by omega⟩
 | k + 1 => by
  unfold arcS
  rw [List.mem_append, mem_arcS, List.mem_singleton]
  constructor
  ·rintro (⟨j, hj, e⟩ | e)
   ·exact ⟨j, by omega, e⟩
   ·exact ⟨k, by omega, e⟩
  ·rintro ⟨j, hj, e⟩
   by_cases c : j = k
   ·rw [c] at e; exact .inr e
   ·exact .inl ⟨j, by omega, e⟩
theorem mem_arcs {a : Arc} : a ∈ l.arcs X m kilns ↔ Kind l X m kilns a := by
 unfold arcs Kind
 rw [List.mem_append, mem_arcI, mem_arcS]
 constructor
 ·rintro (⟨j, hj, h | h⟩ | h)
  ·exact .inl ⟨j, hj, h⟩
  ·obtain ⟨k, hk, h2, e⟩ := mem_arcK.1 h
   exact .inr (.inl ⟨j, k, hj, hk, h2, e⟩)
  ·exact .inr (.inr h)
 ·rintro (⟨i, hi, e⟩ | ⟨i, k, hi, hk, h2, e⟩ | h)
  ·exact .inl ⟨i, hi, .inl e⟩
  ·exact .inl ⟨i, hi, .inr (mem_arcK.2 ⟨k, hk, h2, e⟩)⟩
  ·exact .inr h
theorem nd_arcK (i : Int) : ∀ k : Nat, ((l.arcK X i k).map fun a => (a.1, a.2.1)).Nodup
 | 0 => List.nodup_nil
 | k + 1 => by
  by_cases h : l.In X i k
  ·rw [arcK_yes h, List.map_append]
   refine List.nodup_append.2 ⟨nd_arcK i k, by simp, fun a ha b hb => ?_⟩
   obtain ⟨a', ha', rfl⟩ := List.mem_map.1 ha
   obtain ⟨j, hj, _, e⟩ := mem_arcK.1 ha'
   have hb2 : b = (1 + i, 1 + (l.n : Int) + k) := by simpa using hb
   intro e2
   rw [e, hb2] at e2
   simp only [Prod.mk.injEq] at e2
   omega
  ·rw [arcK_no h]; exact nd_arcK i k
theorem nd_arcI : ∀ i : Nat, ((l.arcI X m i).map fun a => (a.1, a.2.1)).Nodup
 | 0 => List.nodup_nil
 | i + 1 => by
  unfold arcI
  rw [List.map_append, List.map_cons]
  refine List.nodup_append.2 ⟨nd_arcI i, List.nodup_cons.2 ⟨fun h => ?_, nd_arcK i m⟩, fun a ha b hb => ?_⟩
  ·obtain ⟨a', ha', e⟩ := List.mem_map.1 h
   obtain ⟨j, hj, _, e2⟩ := mem_arcK.1 ha'
   rw [e2] at e
   simp only [Prod.mk.injEq] at e
   omega
  ·obtain ⟨a', ha', rfl⟩ := List.mem_map.1 ha
   obtain ⟨j, hj, h2⟩ := mem_arcI.1 ha'
   intro e
   rcases List.mem_cons.1 hb with hb | hb
   ·rcases h2 with h2 | h2
    ·rw [h2, hb] at e; simp only [Prod.mk.injEq] at e; omega
    ·obtain ⟨q, _, _, e2⟩ := mem_arcK.1 h2
     rw [e2, hb] at e; simp only [Prod.mk.injEq] at e; omega
   ·obtain ⟨b', hb', rfl⟩ := List.mem_map.1 hb
    obtain ⟨q', _, _, e3⟩ := mem_arcK.1 hb'
    rcases h2 with h2 | h2
    ·rw [h2, e3] at e; simp only [Prod.mk.injEq] at e; omega
    ·obtain ⟨q, _, _, e2⟩ := mem_arcK.1 h2
     rw [e2, e3] at e; simp only [Prod.mk.injEq] at e; omega
theorem nd_arcS : ∀ k : Nat, ((l.arcS X m kilns k).map fun a => (a.1, a.2.1)).Nodup
 | 0 => List.nodup_nil
 | k + 1 => by
  unfold arcS
  rw [List.map_append]
  refine List.nodup_append.2 ⟨nd_arcS k, by simp, fun a ha b hb => ?_⟩
  obtain ⟨a', ha', rfl⟩ := List.mem_map.1 ha
  obtain ⟨j, hj, e⟩ := mem_arcS.1 ha'
  have hb2 : b = (1 + (l.n : Int) + k, (l.n : Int) + m + 1) := by simpa using hb
  intro e2
  rw [e, hb2] at e2
  simp only [Prod.mk.injEq] at e2
  omega
theorem nd_arcs : ((l.arcs X m kilns).map fun a => (a.1, a.2.1)).Nodup := by
 unfold arcs
 rw [List.map_append]
 refine List.nodup_append.2 ⟨nd_arcI l.n, nd_arcS m, fun a ha b hb e => ?_⟩
 obtain ⟨a', ha', rfl⟩ := List.mem_map.1 ha
 obtain ⟨b', hb', rfl⟩ := List.mem_map.1 hb
 obtain ⟨k, hk, e2⟩ := mem_arcS.1 hb'
 obtain ⟨j, hj, h2⟩ := mem_arcI.1 ha'
 rcases h2 with h2 | h2
 ·rw [h2, e2] at e; simp only [Prod.mk.injEq] at e; omega
 ·obtain ⟨q, hq, _, e3⟩ := mem_arcK.1 h2
  rw [e3, e2] at e; simp only [Prod.mk.injEq] at e; omega
end
end Lds
end Go.Proofs.Ytbepolognfdkeaa
