import Derived.Test.YtbepolognfdkeaaGaJ
import Derived.Test.YtbepolognfdkeaaSri
set_option maxRecDepth 100000
namespace Go.Proofs.Ytbepolognfdkeaa
structure Pick (p : Int → Prop) (n c : Nat) (K : Int → Int) : Prop where
 inc : Rise c K
 mem : ∀ i : Int, (∃ j : Int, (0 ≤ j ∧ j < c) ∧ K j = i) ↔ (0 ≤ i ∧ i < n) ∧ p i
 sum : ∀ f : Int → Int, sm (fun j => f (K j)) c = sm (fun i => ind (p i) * f i) n
 le : c ≤ n
theorem Pick.nil (p : Int → Prop) (K : Int → Int) : Pick p 0 0 K :=
 ⟨⟨fun a b _ _ _ => by omega⟩, fun i => ⟨fun ⟨j, hj, _⟩ => by omega, fun ⟨h, _⟩ => by omega⟩, fun f => rfl, Nat.le_refl _⟩
theorem Pick.no {p : Int → Prop} {n c : Nat} {K : Int → Int} (h : Pick p n c K) (hp : ¬ p n) : Pick p (n + 1) c K :=
 ⟨h.inc, fun i => by
  rw [h.mem i]
  constructor
  ·rintro ⟨a, b⟩; exact ⟨by omega, b⟩
  ·rintro ⟨a, b⟩
   by_cases e : i = n
   ·rw [e] at b; exact absurd b hp
   ·exact ⟨by omega, b⟩, fun f => by
  rw [show ((n + 1 : Nat) : Int) = (n : Int) + 1 by omega, sm_succ _ (by omega), ind_f hp, h.sum f]; omega, Nat.le_succ_of_le h.le⟩
theorem Pick.yes {p : Int → Prop} {n c : Nat} {K : Int → Int} (h : Pick p n c K) (hp : p n) : Pick p (n + 1) (c + 1) (upd K c n) :=
 ⟨⟨fun a b a0 ab b1 => by
  have hk : ∀ j : Int, 0 ≤ j → j < c → K j < n := fun j j0 j1 => ((h.mem (K j)).1 ⟨j, ⟨j0, j1⟩, rfl⟩).1.2
  by_cases e : b = c
  ·rw [e, upd_same, upd_ne _ _ (by omega)]; exact hk a a0 (by omega)
  ·rw [upd_ne _ _ e, upd_ne _ _ (by omega)]; exact h.inc.inc a b a0 ab (by omega)⟩, fun i => by
  constructor
  ·rintro ⟨j, hj, e⟩
   by_cases ej : j = c
   ·rw [ej, upd_same] at e; rw [← e]; exact ⟨by omega, hp⟩
   ·rw [upd_ne _ _ ej] at e
    have := (h.mem i).1 ⟨j, by omega, e⟩
    exact ⟨by omega, this.2⟩
  ·rintro ⟨a, b⟩
   by_cases e : i = n
   ·exact ⟨c, by omega, by rw [upd_same, e]⟩
   ·obtain ⟨j, hj, ej⟩ := (h.mem i).2 ⟨by omega, b⟩
    exact ⟨j, by omega, by rw [upd_ne _ _ (by omega)]; exact ej⟩, fun f => by
  rw [show ((n + 1 : Nat) : Int) = (n : Int) + 1 by omega, show ((c + 1 : Nat) : Int) = (c : Int) + 1 by omega, sm_succ _ (by omega), sm_succ _ (by omega), ind_t hp, upd_same, ← h.sum f, sm_congr (g := fun j => f (K j)) fun j j0 j1 => by rw [upd_ne _ _ (by omega)]]
  omega, by have := h.le; omega⟩
def ovl (a b c d : Int) : Int := max 0 (min b d - max a c)
def wthn (l : Lds) (hn : Nat) (A B : Int → Int) (i : Int) : Int := sm (fun k => ovl (A k) (B k) (l.r i) (l.d i)) hn
structure Prv (l : Lds) (kilns : Int) (xn : Nat) (Y : Int → Int) (hn : Nat) (A B : Int → Int) : Prop where
 hrs : ∀ k : Int, 0 ≤ k → k < hn → (0 ≤ A k ∧ A k < B k ∧ B k ≤ 1000000) ∧ (0 < k → B (k - 1) ≤ A k)
 lds : ∀ j : Int, 0 ≤ j → j < xn → 0 ≤ Y j ∧ Y j < l.n
 uni : ∀ a b : Int, 0 ≤ a → a < b → b < xn → Y a ≠ Y b
 big : sm (fun k => B k - A k) hn * kilns < sm (fun j => max 0 (l.len (Y j) - (l.d (Y j) - l.r (Y j) - wthn l hn A B (Y j)))) xn
section
variable {l : Lds} {c : Nat} {X : Int → Int} {M : Int}
theorem Cuts.ovl (h : Cuts l c X) {i k : Int} (i0 : 0 ≤ i) (i1 : i < l.n) (k0 : 0 ≤ k) (k1 : k < ((c - 1 : Nat) : Int)) : ovl (X k) (X (k + 1)) (l.r i) (l.d i) = ind (l.In X i k) * (X (k + 1) - X k) := by
 have h1 := h.inc k (k + 1) k0 (by omega) (by omega)
 unfold Go.Proofs.Ytbepolognfdkeaa.ovl
 by_cases e : l.In X i k
 ·rw [ind_t e]
  have e1 : l.r i ≤ X k := e.1
  have e2 : X (k + 1) ≤ l.d i := e.2
  omega
 ·rw [ind_f e, Int.zero_mul]
  obtain ⟨a, ha, ea⟩ := (h.mem (l.r i)).2 ⟨i, ⟨i0, i1⟩, .inl rfl⟩
  obtain ⟨b, hb, eb⟩ := (h.mem (l.d i)).2 ⟨i, ⟨i0, i1⟩, .inr rfl⟩
  by_cases e1 : l.r i ≤ X k
  ·have e2 : ¬ X (k + 1) ≤ l.d i := fun e2 => e ⟨e1, e2⟩
   have : b < k + 1 := Classical.byContradiction fun hn => by
    have := h.mono (a := k + 1) (b := b) (by omega) (by omega) hb.2; omega
   have := h.mono (a := b) (b := k) hb.1 (by omega) (by omega)
   omega
  ·have : k < a := Classical.byContradiction fun hn => by
    have := h.mono (a := a) (b := k) ha.1 (by omega) (by omega); omega
   have := h.mono (a := k + 1) (b := a) (by omega) (by omega) ha.2
   omega
theorem Cuts.wide (h : Cuts l c X) (hF : l.Fit M) {i : Int} (i0 : 0 ≤ i) (i1 : i < l.n) : l.d i - l.r i = sm (fun k => ind (l.In X i k) * (X (k + 1) - X k)) ((c - 1 : Nat) : Int) := by
 have e := h.outs hF (fun _ => 0) i0 i1
 have hr := hF.r0 i i0 i1
 have hd := hF.rd i i0 i1
 have hM := hF.dM i i0 i1
 unfold Lds.outs at e
 rw [sm_congr (g := fun t => ind (l.r i ≤ t ∧ t < l.d i)) fun t _ _ => by show _ * (1 - sm (fun k => 0 * sp X k t) ((c - 1 : Nat) : Int)) = _; rw [sm_zeroG fun k _ _ => Int.zero_mul _]; omega, sm_span hr hM] at e
 rw [show l.d i - l.r i = max 0 (l.d i - l.r i) by omega, e]
 exact sm_congr fun k _ _ => by rw [Int.sub_zero, Int.mul_one]
theorem CrushK.prv {kilns : Int} {S T : Int → Prop} (h : CrushK l c X kilns S T) (hC : Cuts l c X) (hF : l.Fit 1000000) {xn hn : Nat} {Y K : Int → Int} (hY : Pick S l.n xn Y) (hK : Pick T (c - 1) hn K) :
  Prv l kilns xn Y hn (fun k => X (K k)) (fun k => X (K k + 1)) := by
 have hk : ∀ k : Int, 0 ≤ k → k < hn → 0 ≤ K k ∧ K k < ((c - 1 : Nat) : Int) := fun k k0 k1 => ((hK.mem (K k)).1 ⟨k, ⟨k0, k1⟩, rfl⟩).1
 have hy : ∀ j : Int, 0 ≤ j → j < xn → 0 ≤ Y j ∧ Y j < l.n := fun k k0 k1 => ((hY.mem (Y k)).1 ⟨k, ⟨k0, k1⟩, rfl⟩).1
 have hX : ∀ j : Int, 0 ≤ j → j < c → 0 ≤ X j ∧ X j ≤ 1000000 := fun j j0 j1 => by
  obtain ⟨i, hi, e⟩ := (hC.mem (X j)).1 ⟨j, ⟨j0, j1⟩, rfl⟩
  have h1 := hF.r0 i hi.1 hi.2
  have h2 := hF.rd i hi.1 hi.2
  have h3 := hF.dM i hi.1 hi.2
  omega
 refine ⟨fun k k0 k1 => ⟨?_, fun hk0 => ?_⟩, hy, fun a b a0 ab b1 => ?_, ?_⟩
 ·have h1 := hk k k0 k1
  have h2 := hX (K k) h1.1 (by omega)
  have h3 := hX (K k + 1) (by omega) (by omega)
  have h4 := hC.inc (K k) (K k + 1) h1.1 (by omega) (by omega)
  exact ⟨h2.1, h4, h3.2⟩
 ·have h1 := hk k k0 k1
  have h2 := hk (k - 1) (by omega) (by omega)
  have h3 := hK.inc.inc (k - 1) k (by omega) (by omega) k1
  exact hC.mono (by omega) (by omega) (by omega)
 ·have := hY.inc.inc a b a0 ab b1
  omega
 ·rw [hK.sum fun k => X (k + 1) - X k, Int.mul_comm]
  refine Int.lt_of_lt_of_le h.big ?_
  rw [hY.sum fun i => max 0 (l.len i - (l.d i - l.r i - wthn l hn (fun k => X (K k)) (fun k => X (K k + 1)) i))]
  refine sm_le fun i i0 i1 => Int.mul_le_mul_of_nonneg_left ?_ (ind_rng _).1
  have e : wthn l hn (fun k => X (K k)) (fun k => X (K k + 1)) i = sm (fun k => ind (T k) * (ind (l.In X i k) * (X (k + 1) - X k))) ((c - 1 : Nat) : Int) := by
   unfold wthn
   rw [hK.sum fun k => Go.Proofs.Ytbepolognfdkeaa.ovl (X k) (X (k + 1)) (l.r i) (l.d i)]
   exact sm_congr fun k k0 k1 => by rw [hC.ovl i0 i1 k0 k1]
  have e2 : sm (fun k => ind (l.In X i k) * ((X (k + 1) - X k) * (1 - ind (T k)))) ((c - 1 : Nat) : Int) = sm (fun k => ind (l.In X i k) * (X (k + 1) - X k)) ((c - 1 : Nat) : Int) - sm (fun k => ind (T k) * (ind (l.In X i k) * (X (k + 1) - X k))) ((c - 1 : Nat) : Int) := by
   rw [← sm_sub]
   exact sm_congr fun k _ _ => by
    rw [Int.mul_sub (X (k + 1) - X k), Int.mul_one, Int.mul_sub (ind (l.In X i k)), Int.mul_left_comm (ind (T k)), Int.mul_comm (X (k + 1) - X k) (ind (T k))]
  have e3 := hC.wide hF i0 i1
  omega
end
theorem Net.Cut.low {G : Net} {L LV : Int → Int} {S : Int → Prop} (hG : G.Ok) (hc : G.Cut L S) (h : G.Lev L LV) : LV (G.nn - 1) < 0 := by
 have h2 := hG.n2
 have key : ∀ (k : Nat) (v : Int), 0 ≤ v → v < G.nn → LV v = k → S v := by
  intro k
  induction k with
  | zero => intro v v0 v1 e; rw [h.zero v v0 v1 e]; exact hc.src
  | succ k ih =>
   intro v v0 v1 e
   obtain ⟨u, q, hu, hq, e1, e2, e3⟩ := h.par v v0 v1 (by omega)
   have hS := ih u hu.1 hu.2 (by omega)
   obtain ⟨ho1, ho2⟩ := hG.out u q hu.1 hu.2 hq.1 hq.2
   rw [← e3]
   exact hc.cl _ ho1.1 ho1.2 (by rw [ho2]; exact hS) e2
 refine Classical.byContradiction fun hn => hc.snk ?_
 exact key (LV (G.nn - 1)).toNat (G.nn - 1) (by omega) (by omega) (by omega)
end Go.Proofs.Ytbepolognfdkeaa
