import Derived.Test.YtfbbagnpdfafjaaSum
set_option maxRecDepth 100000
namespace Go.Proofs.Ytfbbagnpdfafjaa
open Go.RowKit Go.Proofs
def Bf (r : Int → Int) (a b : Int) : Prop := r b < r a ∨ r a = r b ∧ a < b
theorem Bf.trans {r : Int → Int} {a b c : Int} (h : Bf r a b) (g : Bf r b c) : Bf r a c := by unfold Bf at *; omega
theorem Bf.asymm {r : Int → Int} {a b : Int} (h : Bf r a b) (g : Bf r b a) : False := by unfold Bf at *; omega
theorem Bf.ne {r : Int → Int} {a b : Int} (h : Bf r a b) : a ≠ b := fun e => by subst e; exact h.asymm h
structure Shr (total : Int) (n : Nat) (W out : Int → Int) : Prop where
 sum : sm out n = if sm W n = 0 then 0 else total
 one : ∀ i : Int, 0 ≤ i → i < n → out i = total * W i / sm W n ∨ out i = total * W i / sm W n + 1
 top : ∀ i j : Int, 0 ≤ i → i < n → 0 ≤ j → j < n → out i = total * W i / sm W n + 1 → out j = total * W j / sm W n → Bf (fun i => total * W i % sm W n) i j
theorem Shr.uniq {total : Int} {n : Nat} {W o1 o2 : Int → Int} (h1 : Shr total n W o1) (h2 : Shr total n W o2) : ∀ i : Int, 0 ≤ i → i < n → o1 i = o2 i := by
 have key : ∀ {a b : Int → Int}, Shr total n W a → Shr total n W b → ∀ i : Int, 0 ≤ i → i < n → a i ≤ b i := fun {a b} ha hb i i0 i1 => by
  refine Classical.byContradiction fun hx => ?_
  have e : sm a n = sm b n := by rw [ha.sum, hb.sum]
  have hle : ∀ j : Int, 0 ≤ j → j < n → 0 ≤ a j - b j := fun j j0 j1 => by
   refine Classical.byContradiction fun hy => ?_
   have p1 := ha.one i i0 i1
   have p2 := hb.one i i0 i1
   have p3 := ha.one j j0 j1
   have p4 := hb.one j j0 j1
   exact (ha.top i j i0 i1 j0 j1 (by omega) (by omega)).asymm (hb.top j i j0 j1 i0 i1 (by omega) (by omega))
  have h3 := sm_pos hle i i0 i1
  rw [sm_sub] at h3
  omega
 intro i i0 i1
 have := key h1 h2 i i0 i1
 have := key h2 h1 i i0 i1
 omega
theorem Shr.congr {total : Int} {n : Nat} {W W' out out' : Int → Int} (h : Shr total n W out) (e : ∀ i : Int, 0 ≤ i → i < n → W i = W' i) (e2 : ∀ i : Int, 0 ≤ i → i < n → out i = out' i) : Shr total n W' out' := by
 have es : sm W' n = sm W n := sm_congr fun i i0 i1 => (e i i0 i1).symm
 have eo : sm out' n = sm out n := sm_congr fun i i0 i1 => (e2 i i0 i1).symm
 refine ⟨by rw [eo, es]; exact h.sum, fun i i0 i1 => by rw [es, ← e i i0 i1, ← e2 i i0 i1]; exact h.one i i0 i1, fun i j i0 i1 j0 j1 => ?_⟩
 rw [es, ← e i i0 i1, ← e j j0 j1, ← e2 i i0 i1, ← e2 j j0 j1]
 intro a b
 have := h.top i j i0 i1 j0 j1 a b
 unfold Bf at this ⊢
 dsimp only at this ⊢
 rw [← e i i0 i1, ← e j j0 j1]
 exact this
def Pm (g : Int → Int) (m : Int) : Prop := (∀ a : Int, 0 ≤ a → a < m → 0 ≤ g a ∧ g a < m) ∧ ∀ v : Int, 0 ≤ v → v < m → ∃ a : Int, 0 ≤ a ∧ a < m ∧ g a = v
theorem Pm.swap {g : Int → Int} {m j : Int} (h : Pm g m) (j1 : 1 ≤ j) (j2 : j < m) : Pm (upd (upd g j (g (j - 1))) (j - 1) (g j)) m := by
 obtain ⟨h1, h2⟩ := h
 have at1 : ∀ a, upd (upd g j (g (j - 1))) (j - 1) (g j) a = if a = j - 1 then g j else if a = j then g (j - 1) else g a := fun a => rfl
 refine ⟨fun a a0 a1 => ?_, fun v v0 v1 => ?_⟩
 ·rw [at1]
  split
  ·exact h1 j (by omega) j2
  ·split
   ·exact h1 (j - 1) (by omega) (by omega)
   ·exact h1 a a0 a1
 ·obtain ⟨a, a0, a1, rfl⟩ := h2 v v0 v1
  by_cases e1 : a = j
  ·exact ⟨j - 1, by omega, by omega, by rw [at1, if_pos rfl, e1]⟩
  ·by_cases e2 : a = j - 1
   ·exact ⟨j, by omega, j2, by rw [at1, if_neg (by omega), if_pos rfl, e2]⟩
   ·exact ⟨a, a0, a1, by rw [at1, if_neg e2, if_neg e1]⟩
structure Srt (r g : Int → Int) (m : Int) : Prop where
 pm : Pm g m
 ord : ∀ a b : Int, 0 ≤ a → a < b → b < m → Bf r (g a) (g b)
structure Ins (r g : Int → Int) (i j : Int) : Prop where
 pm : Pm g (i + 1)
 at_ : g j = i
 rng : 0 ≤ j ∧ j ≤ i
 ord : ∀ a b : Int, 0 ≤ a → a < b → b ≤ i → a ≠ j → b ≠ j → Bf r (g a) (g b)
 up : ∀ b : Int, j < b → b ≤ i → Bf r i (g b)
 inj : ∀ a : Int, 0 ≤ a → a ≤ i → a ≠ j → g a ≠ i
theorem Ins.init {r g : Int → Int} {i : Int} (i0 : 0 ≤ i) (h : Srt r g i) (hg : g i = i) : Ins r g i i := by
 refine ⟨⟨fun a a0 a1 => ?_, fun v v0 v1 => ?_⟩, hg, by omega, fun a b a0 ab bi aj bj => h.ord a b a0 ab (by omega), fun b h1 h2 => by omega, fun a a0 ai aj => by have := h.pm.1 a a0 (by omega); omega⟩
 ·by_cases e : a = i
  ·rw [e, hg]; omega
  ·have := h.pm.1 a a0 (by omega); omega
 ·by_cases e : v = i
  ·exact ⟨i, i0, by omega, by rw [hg, e]⟩
  ·obtain ⟨a, a0, a1, e2⟩ := h.pm.2 v v0 (by omega)
   exact ⟨a, a0, by omega, e2⟩
theorem Ins.step {r g : Int → Int} {i j : Int} (h : Ins r g i j) (j1 : 1 ≤ j) (c : r (g (j - 1)) < r (g j)) : Ins r (upd (upd g j (g (j - 1))) (j - 1) (g j)) i (j - 1) := by
 have hr := h.rng
 have at1 : ∀ a, upd (upd g j (g (j - 1))) (j - 1) (g j) a = if a = j - 1 then g j else if a = j then g (j - 1) else g a := fun a => rfl
 refine ⟨h.pm.swap j1 (by omega), by rw [at1, if_pos rfl]; exact h.at_, by omega, fun a b a0 ab bi aj bj => ?_, fun b hb bi => ?_, fun a a0 ai aj => ?_⟩
 ·rw [at1, at1, if_neg aj, if_neg bj]
  by_cases e1 : a = j
  ·rw [if_pos e1, if_neg (by omega)]
   exact h.ord (j - 1) b (by omega) (by omega) bi (by omega) (by omega)
  ·by_cases e2 : b = j
   ·rw [if_neg e1, if_pos e2]
    exact h.ord a (j - 1) a0 (by omega) (by omega) e1 (by omega)
   ·rw [if_neg e1, if_neg e2]
    exact h.ord a b a0 ab bi e1 e2
 ·rw [at1, if_neg (by omega)]
  by_cases e : b = j
  ·rw [if_pos e]
   rw [h.at_] at c
   exact .inl c
  ·rw [if_neg e]
   exact h.up b (by omega) bi
 ·rw [at1, if_neg aj]
  split
  ·exact h.inj (j - 1) (by omega) (by omega) (by omega)
  ·exact h.inj a a0 ai (by omega)
theorem Ins.done {r g : Int → Int} {i j : Int} (h : Ins r g i j) (c : ¬ (0 < j ∧ r (g (j - 1)) < r (g j))) : Srt r g (i + 1) := by
 have hr := h.rng
 have low : ∀ a : Int, 0 ≤ a → a < j → Bf r (g a) i := fun a a0 aj => by
  have hj : Bf r (g (j - 1)) i := by
   rw [h.at_] at c
   have h1 := h.pm.1 (j - 1) (by omega) (by omega)
   have h2 : g (j - 1) ≠ i := h.inj (j - 1) (by omega) (by omega) (by omega)
   unfold Bf
   omega
  by_cases e : a = j - 1
  ·rw [e]; exact hj
  ·exact (h.ord a (j - 1) a0 (by omega) (by omega) (by omega) (by omega)).trans hj
 refine ⟨h.pm, fun a b a0 ab bi => ?_⟩
 by_cases e1 : a = j
 ·rw [e1, h.at_]; exact h.up b (by omega) (by omega)
 ·by_cases e2 : b = j
  ·rw [e2, h.at_]; exact low a a0 (by omega)
  ·exact h.ord a b a0 ab (by omega) e1 e2
theorem Srt.inj {r g : Int → Int} {m : Int} (h : Srt r g m) {a b : Int} (a0 : 0 ≤ a) (a1 : a < m) (b0 : 0 ≤ b) (b1 : b < m) (e : g a = g b) : a = b := by
 refine Classical.byContradiction fun hx => ?_
 by_cases c : a < b
 ·exact (h.ord a b a0 c b1).ne e
 ·exact (h.ord b a b0 (by omega) a1).ne e.symm
structure Giv (q g : Int → Int) (n k : Int) (out : Int → Int) : Prop where
 in_ : ∀ a : Int, 0 ≤ a → a < k → out (g a) = q (g a) + 1
 no : ∀ a : Int, k ≤ a → a < n → out (g a) = q (g a)
 sum : sm out n = sm q n + k
theorem Giv.init {q g out : Int → Int} {n : Int} (e : ∀ i : Int, 0 ≤ i → i < n → out i = q i) (h : Pm g n) : Giv q g n 0 out :=
 ⟨fun a a0 a1 => by omega, fun a a0 a1 => by have := h.1 a a0 a1; exact e _ this.1 this.2, by rw [sm_congr e]; omega⟩
theorem Giv.step {r q g out : Int → Int} {n k : Int} (h : Giv q g n k out) (hs : Srt r g n) (k0 : 0 ≤ k) (k1 : k < n) : Giv q g n (k + 1) (upd out (g k) (out (g k) + 1)) := by
 have hk := hs.pm.1 k k0 k1
 refine ⟨fun a a0 a1 => ?_, fun a a0 a1 => ?_, ?_⟩
 ·by_cases e : a = k
  ·rw [e, upd_same, h.no k (by omega) k1]
  ·have := h.in_ a a0 (by omega)
   rw [upd_ne _ _ (fun e2 => e (hs.inj a0 (by omega) k0 k1 e2))]
   exact this
 ·rw [upd_ne _ _ (fun e2 => by have := hs.inj (by omega) a1 k0 k1 e2; omega)]
  exact h.no a (by omega) a1
 ·rw [sm_upd out (g k) _ hk.1 hk.2, h.sum]
  omega
theorem Giv.shr {total : Int} {n : Nat} {W g out : Int → Int} {left : Int} (hs : Srt (fun i => total * W i % sm W n) g n) (hS : sm W n ≠ 0) (hl : left = total - sm (fun i => total * W i / sm W n) n) (l0 : 0 ≤ left) (h : Giv (fun i => total * W i / sm W n) g n left out) : Shr total n W out := by
 refine ⟨by rw [if_neg hS, h.sum, hl]; omega, fun i i0 i1 => ?_, fun i j i0 i1 j0 j1 ei ej => ?_⟩
 ·obtain ⟨a, a0, a1, rfl⟩ := hs.pm.2 i i0 i1
  by_cases c : a < left
  ·exact .inr (h.in_ a a0 c)
  ·exact .inl (h.no a (by omega) a1)
 ·obtain ⟨a, a0, a1, rfl⟩ := hs.pm.2 i i0 i1
  obtain ⟨b, b0, b1, rfl⟩ := hs.pm.2 j j0 j1
  refine hs.ord a b a0 ?_ b1
  by_cases c : a < left
  ·by_cases c2 : b < left
   ·have := h.in_ b b0 c2
    omega
   ·omega
  ·have := h.no a (by omega) a1
   omega
theorem left_rng {total : Int} {n : Nat} {W : Int → Int} (hW : ∀ i : Int, 0 ≤ i → i < n → 0 ≤ W i) (hS : 0 < sm W n) (ht : 0 ≤ total) : 0 ≤ total - sm (fun i => total * W i / sm W n) n ∧ total - sm (fun i => total * W i / sm W n) n < n := by
 have e : total * sm W n = sm W n * sm (fun i => total * W i / sm W n) n + sm (fun i => total * W i % sm W n) n := by
  rw [← sm_mul, ← sm_mul, ← sm_add]
  exact sm_congr fun i i0 i1 => (Int.mul_ediv_add_emod _ _).symm
 have h1 : 0 ≤ sm (fun i => total * W i % sm W n) n := sm_nonneg fun i i0 i1 => Int.emod_nonneg _ (by omega)
 have hn : (0 : Int) < n := by
  refine Classical.byContradiction fun hx => ?_
  rw [sm_neg W (by omega)] at hS
  omega
 have h2 : sm (fun i => total * W i % sm W n) n ≤ n * (sm W n - 1) := sm_bound _ (by omega) fun i i0 i1 => by have := Int.emod_lt_of_pos (total * W i) hS; omega
 generalize sm (fun i => total * W i / sm W n) n = Q at *
 generalize sm (fun i => total * W i % sm W n) n = R at *
 generalize sm W n = S at *
 have e2 : (total - Q) * S = R := by rw [Int.sub_mul, Int.mul_comm Q S]; omega
 constructor
 ·refine Classical.byContradiction fun hx => ?_
  have := Int.mul_le_mul_of_nonneg_right (show total - Q ≤ -1 by omega) (show 0 ≤ S by omega)
  omega
 ·refine Classical.byContradiction fun hx => ?_
  have := Int.mul_le_mul_of_nonneg_right (show (n : Int) ≤ total - Q by omega) (show 0 ≤ S by omega)
  rw [e2] at this
  rw [Int.mul_sub] at h2
  omega
end Go.Proofs.Ytfbbagnpdfafjaa
